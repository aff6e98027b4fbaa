/-
LensFits: for every input the law returns true, and each argument reads afterwards as before (the row, tied to the program's text by its card).
Its walk is the printed contract; what it computes is shown in YtehjelobaflheaaGreatDoorPureLensFits.
-/
import Derived.Deep.RegionHeld3
import Derived.RegionTactic
import Derived.Lib.ItoaLen
import Derived.OrdersIn
import Derived.TacticsIn
import Derived.OwnWalkIn
import Derived.KernelRfl
import Derived.Test.YtehjelobaflheaaGreatDoorCards
import Derived.Test.YtehjelobaflheaaGreatDoorTie
import Derived.WalkKit
import Derived.ProofKit
import Derived.OpenShut
import Derived.ShutString
import Derived.Deep.DeepHandedRow
import Derived.Lib.LaidTab
import Derived.WideShapes
import Derived.Test.YtehjelobaflheaaGreatDoorKP0
import Derived.Test.YtehjelobaflheaaGreatDoorKP1
import Derived.Test.YtehjelobaflheaaGreatDoorKP2
import Derived.Test.YtehjelobaflheaaGreatDoorKP3
set_option linter.unusedVariables false
set_option linter.unusedSimpArgs false
set_option maxHeartbeats 8000000
set_option maxRecDepth 1000000
namespace Go.Proofs.YtehjelobaflheaaGreatDoor.P
open Go.RowKit Go.Proofs.YtehjelobaflheaaGreatDoorW.PrintWords Go.Proofs.YtehjelobaflheaaGreatDoorW.PrintLast Go.Proofs.YtehjelobaflheaaGreatDoorW.PrintMore
def opWords : List ByteArray := [⟨#[97, 100, 100]⟩, ⟨#[100, 114, 111, 112]⟩, ⟨#[114, 101, 110, 97, 109, 101]⟩, ⟨#[115, 112, 108, 105, 116]⟩, ⟨#[106, 111, 105, 110]⟩, ⟨#[114, 101, 116, 121, 112, 101]⟩, ⟨#[115, 99, 97, 108, 101]⟩]
def idxIn (s : ByteArray) : List ByteArray → Int → Int
 | [], _ => -1
 | t :: l, i => if s.toList = t.toList then i else idxIn s l (i + 1)
def opOf (s : ByteArray) : Int := idxIn s opWords 0
theorem index_loop (l : List ByteArray) (s : ByteArray) (hl : l.length ≤ 1000) : ∀ (d i k : Nat), i + d = l.length → d < k → slices_Index_string_string.l0 k l s (l.length : Int) i = some (idxIn s (l.drop i) i)
 | 0, i, k, h, hk => by
  obtain ⟨k, rfl⟩ : ∃ m, k = m + 1 := ⟨k - 1, by omega⟩
  rw [slices_Index_string_string.l0, if_neg (by omega), List.drop_of_length_le (by omega)]
  rfl
 | d + 1, i, k, h, hk => by
  obtain ⟨k, rfl⟩ : ∃ m, k = m + 1 := ⟨k - 1, by omega⟩
  have hw : wrap64 ((i : Int) + 1) = ((i + 1 : Nat) : Int) := by unfold wrap64; omega
  have hi : i < l.length := by omega
  rw [slices_Index_string_string.l0, if_pos (by omega), if_pos (by omega), if_pos (by omega), List.drop_eq_getElem_cons hi, idxIn, hw]
  have e : rdOf ByteArray.empty l (i : Int) = l[i] := by simp [rdOf, List.getD, List.getElem?_eq_getElem hi]
  rw [e]
  by_cases hs : s.toList = l[i].toList
  ·
   rw [if_pos hs, if_pos hs]
  ·
   rw [if_neg hs, if_neg hs, index_loop l s hl d (i + 1) k (by omega) (by omega)]
   simp
theorem opOf_is (s : ByteArray) : slices_Index_string_string.f 8 opWords s = some (opOf s) := by
 unfold slices_Index_string_string.f opOf
 exact index_loop opWords s (by decide) 7 0 8 rfl (by omega)
theorem opOf_range (s : ByteArray) : opOf s = -1 ∨ opOf s = 0 ∨ opOf s = 1 ∨ opOf s = 2 ∨ opOf s = 3 ∨ opOf s = 4 ∨ opOf s = 5 ∨ opOf s = 6 := by
 unfold opOf opWords
 simp only [idxIn]
 repeat' split
 all_goals simp
def wd (ws : List ByteArray) (i : Int) : ByteArray := rdOf ByteArray.empty ws i
def zeroV : Val := ⟨0, 0, ⟨#[]⟩⟩
def readW (ws : List ByteArray) : Step :=
 if opOf (wd ws 0) = 0 then ⟨0, wd ws 1, wd ws 3, ⟨#[]⟩, ⟨#[]⟩, 0, (parseV (wd ws 2)).1⟩
 else if opOf (wd ws 0) = 1 then ⟨1, wd ws 1, ⟨#[]⟩, ⟨#[]⟩, ⟨#[]⟩, 0, (parseV (wd ws 2)).1⟩
 else if opOf (wd ws 0) = 2 then ⟨2, wd ws 1, wd ws 2, ⟨#[]⟩, ⟨#[]⟩, 0, zeroV⟩
 else if opOf (wd ws 0) = 3 then ⟨3, wd ws 1, wd ws 3, wd ws 4, (unqV (wd ws 2)).1, 0, zeroV⟩
 else if opOf (wd ws 0) = 4 then ⟨4, wd ws 1, wd ws 2, wd ws 4, (unqV (wd ws 3)).1, 0, zeroV⟩
 else if opOf (wd ws 0) = 5 then ⟨5, wd ws 1, ⟨#[]⟩, ⟨#[]⟩, ⟨#[]⟩, (typeOfB (wd ws 2)).1, (parseV (wd ws 3)).1⟩
 else if opOf (wd ws 0) = 6 then ⟨6, wd ws 1, wd ws 3, ⟨#[]⟩, ⟨#[]⟩, (intB (wd ws 2)).1, zeroV⟩
 else ⟨-1, wd ws 1, ⟨#[]⟩, ⟨#[]⟩, ⟨#[]⟩, 0, zeroV⟩
abbrev stepAgg (x : Step) : Value := .agg #[.int .i64 x.f0, .string x.f1, .string x.f2, .string x.f3, .string x.f4, .int .i64 x.f5, .int .i64 x.f6.f0, .int .i64 x.f6.f1, .string x.f6.f2]
theorem far_heap {W : World} {g b o : Nat} (h : ¬ g = b) (v : Value) : (W.setCell ⟨b, o, none⟩ v).heap[g]? = W.heap[g]? := Below.heap_setCell W ⟨b, o, none⟩ v g h
theorem put9 {W : World} {g ty : Nat} {a0 a1 a2 a3 a4 a5 a6 a7 a8 : Value} (h : W.heap[g]? = some (.cells #[a0, a1, a2, a3, a4, a5, a6, a7, a8] ty (0, 0))) (v0 v1 v2 v3 v4 v5 v6 v7 v8 : Value) :
  (((((((((W.setCell ⟨g, 0, none⟩ v0).setCell ⟨g, 1, none⟩ v1).setCell ⟨g, 2, none⟩ v2).setCell ⟨g, 3, none⟩ v3).setCell ⟨g, 4, none⟩ v4).setCell ⟨g, 5, none⟩ v5).setCell ⟨g, 6, none⟩ v6).setCell ⟨g, 7, none⟩ v7).setCell ⟨g, 8, none⟩ v8).heap[g]? = some (.cells #[v0, v1, v2, v3, v4, v5, v6, v7, v8] ty (0, 0)) :=
 blk_put (cs := #[v0, v1, v2, v3, v4, v5, v6, v7, a8]) (blk_put (cs := #[v0, v1, v2, v3, v4, v5, v6, a7, a8]) (blk_put (cs := #[v0, v1, v2, v3, v4, v5, a6, a7, a8]) (blk_put (cs := #[v0, v1, v2, v3, v4, a5, a6, a7, a8]) (blk_put (cs := #[v0, v1, v2, v3, a4, a5, a6, a7, a8]) (blk_put (cs := #[v0, v1, v2, a3, a4, a5, a6, a7, a8]) (blk_put (cs := #[v0, v1, a2, a3, a4, a5, a6, a7, a8]) (blk_put (cs := #[v0, a1, a2, a3, a4, a5, a6, a7, a8]) (blk_put (cs := #[a0, a1, a2, a3, a4, a5, a6, a7, a8]) h 0 v0 rfl) 1 v1 rfl) 2 v2 rfl) 3 v3 rfl) 4 v4 rfl) 5 v5 rfl) 6 v6 rfl) 7 v7 rfl) 8 v8 rfl
theorem nine_below {n b : Nat} {w W : World} (h : Below n w W) (hb : n ≤ b) (v0 v1 v2 v3 v4 v5 v6 v7 v8 : Value) : Below n w (((((((((W.setCell ⟨b, 0, none⟩ v0).setCell ⟨b, 1, none⟩ v1).setCell ⟨b, 2, none⟩ v2).setCell ⟨b, 3, none⟩ v3).setCell ⟨b, 4, none⟩ v4).setCell ⟨b, 5, none⟩ v5).setCell ⟨b, 6, none⟩ v6).setCell ⟨b, 7, none⟩ v7).setCell ⟨b, 8, none⟩ v8) :=
 bl_set (bl_set (bl_set (bl_set (bl_set (bl_set (bl_set (bl_set (bl_set h hb _) hb _) hb _) hb _) hb _) hb _) hb _) hb _) hb _
theorem nine_far {g b : Nat} {W : World} (h : ¬ g = b) (v0 v1 v2 v3 v4 v5 v6 v7 v8 : Value) : (((((((((W.setCell ⟨b, 0, none⟩ v0).setCell ⟨b, 1, none⟩ v1).setCell ⟨b, 2, none⟩ v2).setCell ⟨b, 3, none⟩ v3).setCell ⟨b, 4, none⟩ v4).setCell ⟨b, 5, none⟩ v5).setCell ⟨b, 6, none⟩ v6).setCell ⟨b, 7, none⟩ v7).setCell ⟨b, 8, none⟩ v8).heap[g]? = W.heap[g]? := by
 rw [far_heap h, far_heap h, far_heap h, far_heap h, far_heap h, far_heap h, far_heap h, far_heap h, far_heap h]
theorem lensSize : (Tryz.prog.info? 29).map (·.size) = some 9 := by kernel_rfl
theorem setD (W : World) (a : Addr) (v : Value) : W.drew.setCell a v = (W.setCell a v).drew := rfl
theorem fin_read {w W : World} (x : Step) {tmps : Array Value} {a0 a1 a2 a3 a4 a5 a6 a7 a8 : Value} (hp : tmps.getD 2 undef = .pointer (some ⟨w.heap.size, 0, none⟩)) (hg : W.heap[w.heap.size]? = some (.cells #[a0, a1, a2, a3, a4, a5, a6, a7, a8] 29 (0, 0))) (hb : Below w.heap.size w W) :
  bodyPost Tryz.prog Tryz.f40 (fun e w' => e = .returned (stepAgg x) ∧ Below w.heap.size w w') .ret { tmps := tmps, defers := [] } (((((((((W.setCell ⟨w.heap.size, 0, none⟩ (.int .i64 x.f0)).setCell ⟨w.heap.size, 1, none⟩ (.string x.f1)).setCell ⟨w.heap.size, 2, none⟩ (.string x.f2)).setCell ⟨w.heap.size, 3, none⟩ (.string x.f3)).setCell ⟨w.heap.size, 4, none⟩ (.string x.f4)).setCell ⟨w.heap.size, 5, none⟩ (.int .i64 x.f5)).setCell ⟨w.heap.size, 6, none⟩ (.int .i64 x.f6.f0)).setCell ⟨w.heap.size, 7, none⟩ (.int .i64 x.f6.f1)).setCell ⟨w.heap.size, 8, none⟩ (.string x.f6.f2)) :=
 bodyPost_ret (results_cell_row rfl _ _ w.heap.size 29 #[.int .i64 x.f0, .string x.f1, .string x.f2, .string x.f3, .string x.f4, .int .i64 x.f5, .int .i64 x.f6.f0, .int .i64 x.f6.f1, .string x.f6.f2] (0, 0) _ hp (put9 hg _ _ _ _ _ _ _ _ _) Tryz.underlying29 rfl lensSize) rfl
  ⟨rfl, bl_set (bl_set (bl_set (bl_set (bl_set (bl_set (bl_set (bl_set (bl_set hb (Nat.le_refl _) _) (Nat.le_refl _) _) (Nat.le_refl _) _) (Nat.le_refl _) _) (Nat.le_refl _) _) (Nat.le_refl _) _) (Nat.le_refl _) _) (Nat.le_refl _) _) (Nat.le_refl _) _⟩
theorem fin_readD {w W : World} (x : Step) {tmps : Array Value} {a0 a1 a2 a3 a4 a5 a6 a7 a8 : Value} (hp : tmps.getD 2 undef = .pointer (some ⟨w.heap.size, 0, none⟩)) (hg : W.heap[w.heap.size]? = some (.cells #[a0, a1, a2, a3, a4, a5, a6, a7, a8] 29 (0, 0))) (hb : Below w.heap.size w W) :
  bodyPost Tryz.prog Tryz.f40 (fun e w' => e = .returned (stepAgg x) ∧ Below w.heap.size w w') .ret { tmps := tmps, defers := [] } (World.drew (((((((((W.setCell ⟨w.heap.size, 0, none⟩ (.int .i64 x.f0)).setCell ⟨w.heap.size, 1, none⟩ (.string x.f1)).setCell ⟨w.heap.size, 2, none⟩ (.string x.f2)).setCell ⟨w.heap.size, 3, none⟩ (.string x.f3)).setCell ⟨w.heap.size, 4, none⟩ (.string x.f4)).setCell ⟨w.heap.size, 5, none⟩ (.int .i64 x.f5)).setCell ⟨w.heap.size, 6, none⟩ (.int .i64 x.f6.f0)).setCell ⟨w.heap.size, 7, none⟩ (.int .i64 x.f6.f1)).setCell ⟨w.heap.size, 8, none⟩ (.string x.f6.f2))) := by
 have h := fin_read (W := W.drew) x hp hg (bl_drew hb)
 simp only [setD] at h
 exact h
theorem read_calls (k : Nat) (s : ByteArray) (ws : List ByteArray) (w : World) (hG : Good w) (hw : lens_words.f k s = some ws) (h5 : 5 ≤ ws.length) (hsz : ∀ x ∈ ws, x.size ≤ 8796093022208) :
  Calls Tryz.prog 40 #[.string s] w fun e w' => e = .returned (stepAgg (readW ws)) ∧ Below w.heap.size w w' := by
 have HG := JN hG
 have HW := JN hw
 have HSZ := JN hsz
 have hu1 := Tryz.underlying29
 have hu3 := Tryz.underlying27
 clear hG hw hsz
 have BX0 : Jv (∀ o, (w.alloc o).heap[w.heap.size]? = some o) := ⟨fun o => heap_alloc_new w o⟩
 have HB0 : Jv (∀ o, Below w.heap.size w (w.alloc o)) := ⟨fun o => JD (Below.refl w.heap.size w) o⟩
 go_enter Tryz.func40, Tryz.ntmps40
 go_upto_region 2 with (go_at_call 78; refine (lens_words.calls k s ws _ HW.out).mono ?_; rintro e w1 ⟨v0, rfl, hr, hb⟩; obtain ⟨Aw, cw, ev, hcw, hrw⟩ := Kd.R_reads hr; subst ev; have HRW := JN hrw; have hb1 := JJ (BX0.out (.cells #[.int .i64 0, .string ⟨#[]⟩, .string ⟨#[]⟩, .string ⟨#[]⟩, .string ⟨#[]⟩, .int .i64 0, .int .i64 0, .int .i64 0, .string ⟨#[]⟩] 29 (0, 0))) hb; have HB1 := JN (JA (HB0.out _) (HB0.out _).size hb); clear hb hr hrw)
 rename_i K hK
 have REST : ∀ (b : Nat) (u5 u6 u7 u8 u9 u10 u11 u12 u13 u14 u15 : Value) (W : World), Below w.heap.size w W → W.heap[w.heap.size]? = some (.cells #[.int .i64 0, .string ⟨#[]⟩, .string ⟨#[]⟩, .string ⟨#[]⟩, .string ⟨#[]⟩, .int .i64 0, .int .i64 0, .int .i64 0, .string ⟨#[]⟩] 29 (0, 0)) →
   W.heap[b]? = some (.cells #[.int .i64 (opOf (wd ws 0)), .string (wd ws 1), .string ⟨#[]⟩, .string ⟨#[]⟩, .string ⟨#[]⟩, .int .i64 0, .int .i64 0, .int .i64 0, .string ⟨#[]⟩] 29 (0, 0)) → b < W.heap.size → w1.heap.size ≤ b → Below w1.heap.size w1 W → Kd.C Kd.string W Aw ws.length ws →
   K { tmps := #[.string s, undef, .pointer (some ⟨w.heap.size, 0, none⟩), .slice Aw ws.length cw, .pointer (some ⟨b, 0, none⟩), u5, u6, u7, u8, u9, u10, u11, u12, u13, u14, u15, undef, undef, undef, undef, undef, undef, undef, undef, undef, undef, undef, undef, undef, undef, undef, undef, undef, undef, undef, undef, undef, undef, undef, undef, undef, undef, undef, undef, undef, undef, undef, undef, undef, undef, undef, undef, undef, undef, undef, undef, undef, undef, undef, undef, undef, undef, undef, undef, undef, undef, undef, undef, undef, undef, undef, undef, undef, undef, undef, undef, undef, undef, undef, undef, undef, undef, undef, undef, undef, undef, undef, undef, undef, undef, undef, undef, undef, undef, undef, undef, undef, undef, undef, undef, undef, undef, undef, undef, undef, undef, undef, undef, undef, undef, undef, undef, undef, undef, undef, undef, undef], defers := [] } W := by
  intro b u5 u6 u7 u8 u9 u10 u11 u12 u13 u14 u15 W hbw hg hbb hblt hlt hbw1 hrs
  refine hK _ _ ?_
  clear hK
  have HBW := JN hbw
  have HGR := JN hg
  have HBR := JN hbb
  obtain ⟨ad, ea, hx2⟩ := Kd.at_string hrs 2 (by omega) (by omega)
  cases ea
  obtain ⟨ad', ea, hx3⟩ := Kd.at_string hrs 3 (by omega) (by omega)
  cases ea
  obtain ⟨ad', ea, hx4⟩ := Kd.at_string hrs 4 (by omega) (by omega)
  cases ea
  have hsz2 : (wd ws 2).size ≤ 8796093022208 := HSZ.out _ (by simp [wd, rdOf, List.getD, List.getElem?_eq_getElem (show 2 < ws.length by omega)])
  have hsz3 : (wd ws 3).size ≤ 8796093022208 := HSZ.out _ (by simp [wd, rdOf, List.getD, List.getElem?_eq_getElem (show 3 < ws.length by omega)])
  obtain ⟨op, hop⟩ : ∃ op, op = opOf (wd ws 0) := ⟨_, rfl⟩
  have hcase := opOf_range (wd ws 0)
  rw [← hop] at hcase hbb HBR
  have HOP := JN hop
  clear hop
  obtain ⟨p1, hp1⟩ : ∃ x, x = wd ws 1 := ⟨_, rfl⟩
  obtain ⟨p2, hp2⟩ : ∃ x, x = wd ws 2 := ⟨_, rfl⟩
  obtain ⟨p3, hp3⟩ : ∃ x, x = wd ws 3 := ⟨_, rfl⟩
  obtain ⟨p4, hp4⟩ : ∃ x, x = wd ws 4 := ⟨_, rfl⟩
  rw [← hp1] at hbb HBR
  change W.cell? ⟨ad.block, ad.off + 2, none⟩ = some (.string (wd ws 2)) at hx2
  change W.cell? ⟨ad.block, ad.off + 3, none⟩ = some (.string (wd ws 3)) at hx3
  change W.cell? ⟨ad.block, ad.off + 4, none⟩ = some (.string (wd ws 4)) at hx4
  rw [← hp2] at hx2 hsz2
  rw [← hp3] at hx3 hsz3
  rw [← hp4] at hx4
  have HP := JN (And.intro hp1 (And.intro hp2 (And.intro hp3 hp4)))
  clear hp1 hp2 hp3 hp4
  have bx0 : W.cell? ⟨b, 0, none⟩ = some (.int .i64 op) := (Jw hbb 0).trans rfl
  have bf0 : W.frozen? ⟨b, 0, none⟩ = false := Jz hbb 0
  have gx0 : W.cell? ⟨w.heap.size, 0, none⟩ = some (.int .i64 0) := (Jw hg 0).trans rfl
  have gf0 : W.frozen? ⟨w.heap.size, 0, none⟩ = false := Jz hg 0
  have bx1 : W.cell? ⟨b, 1, none⟩ = some (.string p1) := (Jw hbb 1).trans rfl
  have bf1 : W.frozen? ⟨b, 1, none⟩ = false := Jz hbb 1
  have gx1 : W.cell? ⟨w.heap.size, 1, none⟩ = some (.string ⟨#[]⟩) := (Jw hg 1).trans rfl
  have gf1 : W.frozen? ⟨w.heap.size, 1, none⟩ = false := Jz hg 1
  have bx2 : W.cell? ⟨b, 2, none⟩ = some (.string ⟨#[]⟩) := (Jw hbb 2).trans rfl
  have bf2 : W.frozen? ⟨b, 2, none⟩ = false := Jz hbb 2
  have gx2 : W.cell? ⟨w.heap.size, 2, none⟩ = some (.string ⟨#[]⟩) := (Jw hg 2).trans rfl
  have gf2 : W.frozen? ⟨w.heap.size, 2, none⟩ = false := Jz hg 2
  have bx3 : W.cell? ⟨b, 3, none⟩ = some (.string ⟨#[]⟩) := (Jw hbb 3).trans rfl
  have bf3 : W.frozen? ⟨b, 3, none⟩ = false := Jz hbb 3
  have gx3 : W.cell? ⟨w.heap.size, 3, none⟩ = some (.string ⟨#[]⟩) := (Jw hg 3).trans rfl
  have gf3 : W.frozen? ⟨w.heap.size, 3, none⟩ = false := Jz hg 3
  have bx4 : W.cell? ⟨b, 4, none⟩ = some (.string ⟨#[]⟩) := (Jw hbb 4).trans rfl
  have bf4 : W.frozen? ⟨b, 4, none⟩ = false := Jz hbb 4
  have gx4 : W.cell? ⟨w.heap.size, 4, none⟩ = some (.string ⟨#[]⟩) := (Jw hg 4).trans rfl
  have gf4 : W.frozen? ⟨w.heap.size, 4, none⟩ = false := Jz hg 4
  have bx5 : W.cell? ⟨b, 5, none⟩ = some (.int .i64 0) := (Jw hbb 5).trans rfl
  have bf5 : W.frozen? ⟨b, 5, none⟩ = false := Jz hbb 5
  have gx5 : W.cell? ⟨w.heap.size, 5, none⟩ = some (.int .i64 0) := (Jw hg 5).trans rfl
  have gf5 : W.frozen? ⟨w.heap.size, 5, none⟩ = false := Jz hg 5
  have bx6 : W.cell? ⟨b, 6, none⟩ = some (.int .i64 0) := (Jw hbb 6).trans rfl
  have bf6 : W.frozen? ⟨b, 6, none⟩ = false := Jz hbb 6
  have gx6 : W.cell? ⟨w.heap.size, 6, none⟩ = some (.int .i64 0) := (Jw hg 6).trans rfl
  have gf6 : W.frozen? ⟨w.heap.size, 6, none⟩ = false := Jz hg 6
  have bx7 : W.cell? ⟨b, 7, none⟩ = some (.int .i64 0) := (Jw hbb 7).trans rfl
  have bf7 : W.frozen? ⟨b, 7, none⟩ = false := Jz hbb 7
  have gx7 : W.cell? ⟨w.heap.size, 7, none⟩ = some (.int .i64 0) := (Jw hg 7).trans rfl
  have gf7 : W.frozen? ⟨w.heap.size, 7, none⟩ = false := Jz hg 7
  have bx8 : W.cell? ⟨b, 8, none⟩ = some (.string ⟨#[]⟩) := (Jw hbb 8).trans rfl
  have bf8 : W.frozen? ⟨b, 8, none⟩ = false := Jz hbb 8
  have gx8 : W.cell? ⟨w.heap.size, 8, none⟩ = some (.string ⟨#[]⟩) := (Jw hg 8).trans rfl
  have gf8 : W.frozen? ⟨w.heap.size, 8, none⟩ = false := Jz hg 8
  have hgb : w.heap.size < w1.heap.size := blk_lt hb1
  have hgW : w.heap.size < W.heap.size := by omega
  have hgne : ¬ w.heap.size = b := by omega
  have hgne' : ¬ b = w.heap.size := by omega
  obtain ⟨ad1, e1, hy2⟩ := Kd.at_string HRW.out 2 (by omega) (by omega)
  cases e1
  obtain ⟨ad1, e1, hy3⟩ := Kd.at_string HRW.out 3 (by omega) (by omega)
  cases e1
  obtain ⟨ad1, e1, hy4⟩ := Kd.at_string HRW.out 4 (by omega) (by omega)
  cases e1
  have hy2' : w1.cell? ⟨ad.block, ad.off + 2, none⟩ = some (.string (rdOf ByteArray.empty ws 2)) := hy2
  have h_ := JO w1 _ hy2'
  replace h_ : ad.block < w1.heap.size := h_
  have hn : ad.block ≠ b := by omega
  have hm : ad.block < W.heap.size := by omega
  clear hy2' h_
  have hle : w.heap.size ≤ b := by omega
  clear hy2 hy3 hy4
  have q2 : (2 : Int) < ws.length := by omega
  have q3 : (3 : Int) < ws.length := by omega
  have q4 : (4 : Int) < ws.length := by omega
  clear hbw hg hbb hbw1 hrs hb1 hgb
  obtain ⟨v2, hv2⟩ : ∃ v, v = parseV p2 := ⟨_, rfl⟩
  obtain ⟨v3, hv3⟩ : ∃ v, v = parseV p3 := ⟨_, rfl⟩
  obtain ⟨s2, hs2⟩ : ∃ v, v = unqV p2 := ⟨_, rfl⟩
  obtain ⟨s3, hs3⟩ : ∃ v, v = unqV p3 := ⟨_, rfl⟩
  obtain ⟨t2, ht2⟩ : ∃ v, v = typeOfB p2 := ⟨_, rfl⟩
  obtain ⟨n2, hn2'⟩ : ∃ v, v = intB p2 := ⟨_, rfl⟩
  have HP2 : Jv (∀ W, Good W → Calls Tryz.prog 80 #[.string p2] W fun e w' => e = .returned (.tuple #[.agg #[.int .i64 v2.1.f0, .int .i64 v2.1.f1, .string v2.1.f2], .bool v2.2]) ∧ Below W.heap.size W w') := ⟨fun W g => value_Parse.calls p2 _ _ _ _ W g (by unfold value_Parse.f; rw [if_pos hsz2, hv2])⟩
  have HP3 : Jv (∀ W, Good W → Calls Tryz.prog 80 #[.string p3] W fun e w' => e = .returned (.tuple #[.agg #[.int .i64 v3.1.f0, .int .i64 v3.1.f1, .string v3.1.f2], .bool v3.2]) ∧ Below W.heap.size W w') := ⟨fun W g => value_Parse.calls p3 _ _ _ _ W g (by unfold value_Parse.f; rw [if_pos hsz3, hv3])⟩
  have HU2 : Jv (∀ W, Good W → Calls Tryz.prog 81 #[.string p2] W fun e w' => e = .returned (.tuple #[.string s2.1, .bool s2.2]) ∧ Below W.heap.size W w') := ⟨fun W g => text_Unquote.calls p2 _ _ W (by rw [hs2]; exact unq_is p2 hsz2)⟩
  have HU3 : Jv (∀ W, Good W → Calls Tryz.prog 81 #[.string p3] W fun e w' => e = .returned (.tuple #[.string s3.1, .bool s3.2]) ∧ Below W.heap.size W w') := ⟨fun W g => text_Unquote.calls p3 _ _ W (by rw [hs3]; exact unq_is p3 hsz3)⟩
  have HT2 : Jv (∀ W, Good W → Calls Tryz.prog 67 #[.string p2] W fun e w' => e = .returned (.tuple #[.int .i64 t2.1, .bool t2.2]) ∧ Below W.heap.size W w') := ⟨fun W g => shape_TypeOf.calls 4 p2 _ _ W (by rw [ht2]; exact typeOf_is p2)⟩
  have HI2 : Jv (∀ W, Good W → Calls Tryz.prog 82 #[.string p2] W fun e w' => e = .returned (.tuple #[.int .i64 n2.1, .bool n2.2]) ∧ Below W.heap.size W w') := ⟨fun W g => text_Int.calls p2 _ _ W g (by rw [hn2']; exact int_is p2 (by omega))⟩
  have HVV := JN (And.intro hv2 (And.intro hv3 (And.intro hs2 (And.intro hs3 (And.intro ht2 hn2')))))
  clear hv2 hv3 hs2 hs3 ht2 hn2' hsz2 hsz3
  rcases hcase with h | h | h | h | h | h | h | h
  all_goals subst h
  all_goals go_wp2_with (first
   | (go_at_call 80; (with_reducible refine (HP2.out _ (HG.out.below (KG))).mono ?_); rintro e w2 ⟨rfl, hb⟩; have HBK := JN hb; obtain ⟨hc, hf⟩ := bcell2 hb; have hzb : b < w2.heap.size := (KU); have hzg : w.heap.size < w2.heap.size := (by omega); have hz2 : ad.block < w2.heap.size := (KU); have HGR' := JN (JJ (by with_reducible repeat (first | exact HGR.out | refine (far_heap hgne _).trans ?_)) hb); clear HGR; have HGR := HGR'; clear HGR'; have HBW' : Jv (Below w.heap.size w w2) := ⟨Below.trans (KG) (hb.mono (show w.heap.size ≤ _ by first | omega | (simp; omega)))⟩; clear HBW; have HBW := HBW'; clear HBW' hb)
   | (go_at_call 80; (with_reducible refine (HP3.out _ (HG.out.below (KG))).mono ?_); rintro e w2 ⟨rfl, hb⟩; have HBK := JN hb; obtain ⟨hc, hf⟩ := bcell2 hb; have hzb : b < w2.heap.size := (KU); have hzg : w.heap.size < w2.heap.size := (by omega); have hz2 : ad.block < w2.heap.size := (KU); have HGR' := JN (JJ (by with_reducible repeat (first | exact HGR.out | refine (far_heap hgne _).trans ?_)) hb); clear HGR; have HGR := HGR'; clear HGR'; have HBW' : Jv (Below w.heap.size w w2) := ⟨Below.trans (KG) (hb.mono (show w.heap.size ≤ _ by first | omega | (simp; omega)))⟩; clear HBW; have HBW := HBW'; clear HBW' hb)
   | (go_at_call 81; (with_reducible refine (HU2.out _ (HG.out.below (KG))).mono ?_); rintro e w2 ⟨rfl, hb⟩; have HBK := JN hb; obtain ⟨hc, hf⟩ := bcell2 hb; have hzb : b < w2.heap.size := (KU); have hzg : w.heap.size < w2.heap.size := (by omega); have hz2 : ad.block < w2.heap.size := (KU); have HGR' := JN (JJ (by with_reducible repeat (first | exact HGR.out | refine (far_heap hgne _).trans ?_)) hb); clear HGR; have HGR := HGR'; clear HGR'; have HBW' : Jv (Below w.heap.size w w2) := ⟨Below.trans (KG) (hb.mono (show w.heap.size ≤ _ by first | omega | (simp; omega)))⟩; clear HBW; have HBW := HBW'; clear HBW' hb)
   | (go_at_call 81; (with_reducible refine (HU3.out _ (HG.out.below (KG))).mono ?_); rintro e w2 ⟨rfl, hb⟩; have HBK := JN hb; obtain ⟨hc, hf⟩ := bcell2 hb; have hzb : b < w2.heap.size := (KU); have hzg : w.heap.size < w2.heap.size := (by omega); have hz2 : ad.block < w2.heap.size := (KU); have HGR' := JN (JJ (by with_reducible repeat (first | exact HGR.out | refine (far_heap hgne _).trans ?_)) hb); clear HGR; have HGR := HGR'; clear HGR'; have HBW' : Jv (Below w.heap.size w w2) := ⟨Below.trans (KG) (hb.mono (show w.heap.size ≤ _ by first | omega | (simp; omega)))⟩; clear HBW; have HBW := HBW'; clear HBW' hb)
   | (go_at_call 67; (with_reducible refine (HT2.out _ (HG.out.below (KG))).mono ?_); rintro e w2 ⟨rfl, hb⟩; have HBK := JN hb; obtain ⟨hc, hf⟩ := bcell2 hb; have hzb : b < w2.heap.size := (KU); have hzg : w.heap.size < w2.heap.size := (by omega); have hz2 : ad.block < w2.heap.size := (KU); have HGR' := JN (JJ (by with_reducible repeat (first | exact HGR.out | refine (far_heap hgne _).trans ?_)) hb); clear HGR; have HGR := HGR'; clear HGR'; have HBW' : Jv (Below w.heap.size w w2) := ⟨Below.trans (KG) (hb.mono (show w.heap.size ≤ _ by first | omega | (simp; omega)))⟩; clear HBW; have HBW := HBW'; clear HBW' hb)
   | (go_at_call 82; (with_reducible refine (HI2.out _ (HG.out.below (KG))).mono ?_); rintro e w2 ⟨rfl, hb⟩; have HBK := JN hb; obtain ⟨hc, hf⟩ := bcell2 hb; have hzb : b < w2.heap.size := (KU); have hzg : w.heap.size < w2.heap.size := (by omega); have hz2 : ad.block < w2.heap.size := (KU); have HGR' := JN (JJ (by with_reducible repeat (first | exact HGR.out | refine (far_heap hgne _).trans ?_)) hb); clear HGR; have HGR := HGR'; clear HGR'; have HBW' : Jv (Below w.heap.size w w2) := ⟨Below.trans (KG) (hb.mono (show w.heap.size ≤ _ by first | omega | (simp; omega)))⟩; clear HBW; have HBW := HBW'; clear HBW' hb))
  ·
   have hrd : readW ws = ⟨-1, p1, ⟨#[]⟩, ⟨#[]⟩, ⟨#[]⟩, 0, zeroV⟩ := by
    obtain ⟨e1, e2, e3, e4⟩ := HP.out
    obtain ⟨f1, f2, f3, f4, f5, f6⟩ := HVV.out
    subst f1 f2 f3 f4 f5 f6 e1 e2 e3 e4
    unfold readW
    rw [← HOP.out]
    rfl
   rw [hrd]
   exact fin_read (w := w) ⟨-1, p1, ⟨#[]⟩, ⟨#[]⟩, ⟨#[]⟩, 0, zeroV⟩ rfl (by with_reducible repeat (first | exact HGR.out | refine (far_heap hgne _).trans ?_)) (KZ)
  ·
   have hrd : readW ws = ⟨0, p1, p3, ⟨#[]⟩, ⟨#[]⟩, 0, v2.1⟩ := by
    obtain ⟨e1, e2, e3, e4⟩ := HP.out
    obtain ⟨f1, f2, f3, f4, f5, f6⟩ := HVV.out
    subst f1 f2 f3 f4 f5 f6 e1 e2 e3 e4
    unfold readW
    rw [← HOP.out]
    rfl
   rw [hrd]
   exact fin_read (w := w) ⟨0, p1, p3, ⟨#[]⟩, ⟨#[]⟩, 0, v2.1⟩ rfl (by with_reducible repeat (first | exact HGR.out | refine (far_heap hgne _).trans ?_)) (KZ)
  ·
   have hrd : readW ws = ⟨1, p1, ⟨#[]⟩, ⟨#[]⟩, ⟨#[]⟩, 0, v2.1⟩ := by
    obtain ⟨e1, e2, e3, e4⟩ := HP.out
    obtain ⟨f1, f2, f3, f4, f5, f6⟩ := HVV.out
    subst f1 f2 f3 f4 f5 f6 e1 e2 e3 e4
    unfold readW
    rw [← HOP.out]
    rfl
   rw [hrd]
   exact fin_read (w := w) ⟨1, p1, ⟨#[]⟩, ⟨#[]⟩, ⟨#[]⟩, 0, v2.1⟩ rfl (by with_reducible repeat (first | exact HGR.out | refine (far_heap hgne _).trans ?_)) (KZ)
  ·
   have hrd : readW ws = ⟨2, p1, p2, ⟨#[]⟩, ⟨#[]⟩, 0, zeroV⟩ := by
    obtain ⟨e1, e2, e3, e4⟩ := HP.out
    obtain ⟨f1, f2, f3, f4, f5, f6⟩ := HVV.out
    subst f1 f2 f3 f4 f5 f6 e1 e2 e3 e4
    unfold readW
    rw [← HOP.out]
    rfl
   rw [hrd]
   exact fin_read (w := w) ⟨2, p1, p2, ⟨#[]⟩, ⟨#[]⟩, 0, zeroV⟩ rfl (by with_reducible repeat (first | exact HGR.out | refine (far_heap hgne _).trans ?_)) (KZ)
  ·
   have hrd : readW ws = ⟨3, p1, p3, p4, s2.1, 0, zeroV⟩ := by
    obtain ⟨e1, e2, e3, e4⟩ := HP.out
    obtain ⟨f1, f2, f3, f4, f5, f6⟩ := HVV.out
    subst f1 f2 f3 f4 f5 f6 e1 e2 e3 e4
    unfold readW
    rw [← HOP.out]
    rfl
   have hb3 := HBK.out
   have HRow : (w2.setCell ⟨b, 4, none⟩ (.string s2.1)).heap[b]? = some (.cells #[.int .i64 3, .string p1, .string ⟨#[]⟩, .string ⟨#[]⟩, .string s2.1, .int .i64 0, .int .i64 0, .int .i64 0, .string ⟨#[]⟩] 29 (0, 0)) := blk_put (cs := #[.int .i64 3, .string p1, .string ⟨#[]⟩, .string ⟨#[]⟩, .string ⟨#[]⟩, .int .i64 0, .int .i64 0, .int .i64 0, .string ⟨#[]⟩]) (JJ HBR.out hb3) 4 _ rfl
   have HG2 := JN ((far_heap (W := w2) (b := b) (o := 4) hgne (.string s2.1)).trans HGR.out)
   have za : (w2.setCell ⟨b, 4, none⟩ (.string s2.1)).cell? ⟨ad.block, ad.off + 3, none⟩ = some (.string p3) := (cell_far (a := ⟨ad.block, ad.off + 3, none⟩) (p := ⟨b, 4, none⟩) hn _).trans ((hb3.cell (p := ⟨ad.block, ad.off + 3, none⟩) hm).trans hx3)
   have z4 : (w2.setCell ⟨b, 4, none⟩ (.string s2.1)).cell? ⟨ad.block, ad.off + 4, none⟩ = some (.string p4) := (cell_far (a := ⟨ad.block, ad.off + 4, none⟩) (p := ⟨b, 4, none⟩) hn _).trans ((hb3.cell (p := ⟨ad.block, ad.off + 4, none⟩) hm).trans hx4)
   have HB4 := JN (bl_set (j := 4) HBW.out hle (.string s2.1))
   generalize (w2.setCell ⟨b, 4, none⟩ (.string s2.1)) = X at HRow HG2 za z4 HB4 ⊢
   clear hb3 HBK HBW HGR hc hf hzb hzg hz2 hx2 hx3 hx4 bx0 bx1 bx2 bx3 bx4 bx5 bx6 bx7 bx8 bf0 bf1 bf2 bf3 bf4 bf5 bf6 bf7 bf8 gx0 gx1 gx2 gx3 gx4 gx5 gx6 gx7 gx8 gf0 gf1 gf2 gf3 gf4 gf5 gf6 gf7 gf8 HP2 HP3 HU2 HU3 HT2 HI2
   have HRW2 := JN HRow
   have bx0 : X.cell? ⟨b, 0, none⟩ = some (.int .i64 3) := (Jw HRow 0).trans rfl
   have bf0 : X.frozen? ⟨b, 0, none⟩ = false := Jz HRow 0
   have gx0 : X.cell? ⟨w.heap.size, 0, none⟩ = some (.int .i64 0) := (Jw HG2.out 0).trans rfl
   have gf0 : X.frozen? ⟨w.heap.size, 0, none⟩ = false := Jz HG2.out 0
   have bx1 : X.cell? ⟨b, 1, none⟩ = some (.string p1) := (Jw HRow 1).trans rfl
   have bf1 : X.frozen? ⟨b, 1, none⟩ = false := Jz HRow 1
   have gx1 : X.cell? ⟨w.heap.size, 1, none⟩ = some (.string ⟨#[]⟩) := (Jw HG2.out 1).trans rfl
   have gf1 : X.frozen? ⟨w.heap.size, 1, none⟩ = false := Jz HG2.out 1
   have bx2 : X.cell? ⟨b, 2, none⟩ = some (.string ⟨#[]⟩) := (Jw HRow 2).trans rfl
   have bf2 : X.frozen? ⟨b, 2, none⟩ = false := Jz HRow 2
   have gx2 : X.cell? ⟨w.heap.size, 2, none⟩ = some (.string ⟨#[]⟩) := (Jw HG2.out 2).trans rfl
   have gf2 : X.frozen? ⟨w.heap.size, 2, none⟩ = false := Jz HG2.out 2
   have bx3 : X.cell? ⟨b, 3, none⟩ = some (.string ⟨#[]⟩) := (Jw HRow 3).trans rfl
   have bf3 : X.frozen? ⟨b, 3, none⟩ = false := Jz HRow 3
   have gx3 : X.cell? ⟨w.heap.size, 3, none⟩ = some (.string ⟨#[]⟩) := (Jw HG2.out 3).trans rfl
   have gf3 : X.frozen? ⟨w.heap.size, 3, none⟩ = false := Jz HG2.out 3
   have bx4 : X.cell? ⟨b, 4, none⟩ = some (.string s2.1) := (Jw HRow 4).trans rfl
   have bf4 : X.frozen? ⟨b, 4, none⟩ = false := Jz HRow 4
   have gx4 : X.cell? ⟨w.heap.size, 4, none⟩ = some (.string ⟨#[]⟩) := (Jw HG2.out 4).trans rfl
   have gf4 : X.frozen? ⟨w.heap.size, 4, none⟩ = false := Jz HG2.out 4
   have bx5 : X.cell? ⟨b, 5, none⟩ = some (.int .i64 0) := (Jw HRow 5).trans rfl
   have bf5 : X.frozen? ⟨b, 5, none⟩ = false := Jz HRow 5
   have gx5 : X.cell? ⟨w.heap.size, 5, none⟩ = some (.int .i64 0) := (Jw HG2.out 5).trans rfl
   have gf5 : X.frozen? ⟨w.heap.size, 5, none⟩ = false := Jz HG2.out 5
   have bx6 : X.cell? ⟨b, 6, none⟩ = some (.int .i64 0) := (Jw HRow 6).trans rfl
   have bf6 : X.frozen? ⟨b, 6, none⟩ = false := Jz HRow 6
   have gx6 : X.cell? ⟨w.heap.size, 6, none⟩ = some (.int .i64 0) := (Jw HG2.out 6).trans rfl
   have gf6 : X.frozen? ⟨w.heap.size, 6, none⟩ = false := Jz HG2.out 6
   have bx7 : X.cell? ⟨b, 7, none⟩ = some (.int .i64 0) := (Jw HRow 7).trans rfl
   have bf7 : X.frozen? ⟨b, 7, none⟩ = false := Jz HRow 7
   have gx7 : X.cell? ⟨w.heap.size, 7, none⟩ = some (.int .i64 0) := (Jw HG2.out 7).trans rfl
   have gf7 : X.frozen? ⟨w.heap.size, 7, none⟩ = false := Jz HG2.out 7
   have bx8 : X.cell? ⟨b, 8, none⟩ = some (.string ⟨#[]⟩) := (Jw HRow 8).trans rfl
   have bf8 : X.frozen? ⟨b, 8, none⟩ = false := Jz HRow 8
   have gx8 : X.cell? ⟨w.heap.size, 8, none⟩ = some (.string ⟨#[]⟩) := (Jw HG2.out 8).trans rfl
   have gf8 : X.frozen? ⟨w.heap.size, 8, none⟩ = false := Jz HG2.out 8
   clear HRow
   go_region
   go_wp2
   rw [hrd]
   exact fin_readD (w := w) ⟨3, p1, p3, p4, s2.1, 0, zeroV⟩ rfl ((far_heap hgne _).trans ((far_heap hgne _).trans HG2.out)) (bl_set (bl_set HB4.out hle _) hle _)
  ·
   have hrd : readW ws = ⟨4, p1, p2, p4, s3.1, 0, zeroV⟩ := by
    obtain ⟨e1, e2, e3, e4⟩ := HP.out
    obtain ⟨f1, f2, f3, f4, f5, f6⟩ := HVV.out
    subst f1 f2 f3 f4 f5 f6 e1 e2 e3 e4
    unfold readW
    rw [← HOP.out]
    rfl
   have hb3 := HBK.out
   have HRow : (w2.setCell ⟨b, 4, none⟩ (.string s3.1)).heap[b]? = some (.cells #[.int .i64 4, .string p1, .string ⟨#[]⟩, .string ⟨#[]⟩, .string s3.1, .int .i64 0, .int .i64 0, .int .i64 0, .string ⟨#[]⟩] 29 (0, 0)) := blk_put (cs := #[.int .i64 4, .string p1, .string ⟨#[]⟩, .string ⟨#[]⟩, .string ⟨#[]⟩, .int .i64 0, .int .i64 0, .int .i64 0, .string ⟨#[]⟩]) (JJ HBR.out hb3) 4 _ rfl
   have HG2 := JN ((far_heap (W := w2) (b := b) (o := 4) hgne (.string s3.1)).trans HGR.out)
   have za : (w2.setCell ⟨b, 4, none⟩ (.string s3.1)).cell? ⟨ad.block, ad.off + 2, none⟩ = some (.string p2) := (cell_far (a := ⟨ad.block, ad.off + 2, none⟩) (p := ⟨b, 4, none⟩) hn _).trans ((hb3.cell (p := ⟨ad.block, ad.off + 2, none⟩) hm).trans hx2)
   have z4 : (w2.setCell ⟨b, 4, none⟩ (.string s3.1)).cell? ⟨ad.block, ad.off + 4, none⟩ = some (.string p4) := (cell_far (a := ⟨ad.block, ad.off + 4, none⟩) (p := ⟨b, 4, none⟩) hn _).trans ((hb3.cell (p := ⟨ad.block, ad.off + 4, none⟩) hm).trans hx4)
   have HB4 := JN (bl_set (j := 4) HBW.out hle (.string s3.1))
   generalize (w2.setCell ⟨b, 4, none⟩ (.string s3.1)) = X at HRow HG2 za z4 HB4 ⊢
   clear hb3 HBK HBW HGR hc hf hzb hzg hz2 hx2 hx3 hx4 bx0 bx1 bx2 bx3 bx4 bx5 bx6 bx7 bx8 bf0 bf1 bf2 bf3 bf4 bf5 bf6 bf7 bf8 gx0 gx1 gx2 gx3 gx4 gx5 gx6 gx7 gx8 gf0 gf1 gf2 gf3 gf4 gf5 gf6 gf7 gf8 HP2 HP3 HU2 HU3 HT2 HI2
   have HRW2 := JN HRow
   have bx0 : X.cell? ⟨b, 0, none⟩ = some (.int .i64 4) := (Jw HRow 0).trans rfl
   have bf0 : X.frozen? ⟨b, 0, none⟩ = false := Jz HRow 0
   have gx0 : X.cell? ⟨w.heap.size, 0, none⟩ = some (.int .i64 0) := (Jw HG2.out 0).trans rfl
   have gf0 : X.frozen? ⟨w.heap.size, 0, none⟩ = false := Jz HG2.out 0
   have bx1 : X.cell? ⟨b, 1, none⟩ = some (.string p1) := (Jw HRow 1).trans rfl
   have bf1 : X.frozen? ⟨b, 1, none⟩ = false := Jz HRow 1
   have gx1 : X.cell? ⟨w.heap.size, 1, none⟩ = some (.string ⟨#[]⟩) := (Jw HG2.out 1).trans rfl
   have gf1 : X.frozen? ⟨w.heap.size, 1, none⟩ = false := Jz HG2.out 1
   have bx2 : X.cell? ⟨b, 2, none⟩ = some (.string ⟨#[]⟩) := (Jw HRow 2).trans rfl
   have bf2 : X.frozen? ⟨b, 2, none⟩ = false := Jz HRow 2
   have gx2 : X.cell? ⟨w.heap.size, 2, none⟩ = some (.string ⟨#[]⟩) := (Jw HG2.out 2).trans rfl
   have gf2 : X.frozen? ⟨w.heap.size, 2, none⟩ = false := Jz HG2.out 2
   have bx3 : X.cell? ⟨b, 3, none⟩ = some (.string ⟨#[]⟩) := (Jw HRow 3).trans rfl
   have bf3 : X.frozen? ⟨b, 3, none⟩ = false := Jz HRow 3
   have gx3 : X.cell? ⟨w.heap.size, 3, none⟩ = some (.string ⟨#[]⟩) := (Jw HG2.out 3).trans rfl
   have gf3 : X.frozen? ⟨w.heap.size, 3, none⟩ = false := Jz HG2.out 3
   have bx4 : X.cell? ⟨b, 4, none⟩ = some (.string s3.1) := (Jw HRow 4).trans rfl
   have bf4 : X.frozen? ⟨b, 4, none⟩ = false := Jz HRow 4
   have gx4 : X.cell? ⟨w.heap.size, 4, none⟩ = some (.string ⟨#[]⟩) := (Jw HG2.out 4).trans rfl
   have gf4 : X.frozen? ⟨w.heap.size, 4, none⟩ = false := Jz HG2.out 4
   have bx5 : X.cell? ⟨b, 5, none⟩ = some (.int .i64 0) := (Jw HRow 5).trans rfl
   have bf5 : X.frozen? ⟨b, 5, none⟩ = false := Jz HRow 5
   have gx5 : X.cell? ⟨w.heap.size, 5, none⟩ = some (.int .i64 0) := (Jw HG2.out 5).trans rfl
   have gf5 : X.frozen? ⟨w.heap.size, 5, none⟩ = false := Jz HG2.out 5
   have bx6 : X.cell? ⟨b, 6, none⟩ = some (.int .i64 0) := (Jw HRow 6).trans rfl
   have bf6 : X.frozen? ⟨b, 6, none⟩ = false := Jz HRow 6
   have gx6 : X.cell? ⟨w.heap.size, 6, none⟩ = some (.int .i64 0) := (Jw HG2.out 6).trans rfl
   have gf6 : X.frozen? ⟨w.heap.size, 6, none⟩ = false := Jz HG2.out 6
   have bx7 : X.cell? ⟨b, 7, none⟩ = some (.int .i64 0) := (Jw HRow 7).trans rfl
   have bf7 : X.frozen? ⟨b, 7, none⟩ = false := Jz HRow 7
   have gx7 : X.cell? ⟨w.heap.size, 7, none⟩ = some (.int .i64 0) := (Jw HG2.out 7).trans rfl
   have gf7 : X.frozen? ⟨w.heap.size, 7, none⟩ = false := Jz HG2.out 7
   have bx8 : X.cell? ⟨b, 8, none⟩ = some (.string ⟨#[]⟩) := (Jw HRow 8).trans rfl
   have bf8 : X.frozen? ⟨b, 8, none⟩ = false := Jz HRow 8
   have gx8 : X.cell? ⟨w.heap.size, 8, none⟩ = some (.string ⟨#[]⟩) := (Jw HG2.out 8).trans rfl
   have gf8 : X.frozen? ⟨w.heap.size, 8, none⟩ = false := Jz HG2.out 8
   clear HRow
   go_region
   go_wp2
   rw [hrd]
   exact fin_readD (w := w) ⟨4, p1, p2, p4, s3.1, 0, zeroV⟩ rfl ((far_heap hgne _).trans ((far_heap hgne _).trans HG2.out)) (bl_set (bl_set HB4.out hle _) hle _)
  ·
   have hrd : readW ws = ⟨5, p1, ⟨#[]⟩, ⟨#[]⟩, ⟨#[]⟩, t2.1, v3.1⟩ := by
    obtain ⟨e1, e2, e3, e4⟩ := HP.out
    obtain ⟨f1, f2, f3, f4, f5, f6⟩ := HVV.out
    subst f1 f2 f3 f4 f5 f6 e1 e2 e3 e4
    unfold readW
    rw [← HOP.out]
    rfl
   rw [hrd]
   exact fin_read (w := w) ⟨5, p1, ⟨#[]⟩, ⟨#[]⟩, ⟨#[]⟩, t2.1, v3.1⟩ rfl (by with_reducible repeat (first | exact HGR.out | refine (far_heap hgne _).trans ?_)) (KZ)
  ·
   have hrd : readW ws = ⟨6, p1, p3, ⟨#[]⟩, ⟨#[]⟩, n2.1, zeroV⟩ := by
    obtain ⟨e1, e2, e3, e4⟩ := HP.out
    obtain ⟨f1, f2, f3, f4, f5, f6⟩ := HVV.out
    subst f1 f2 f3 f4 f5 f6 e1 e2 e3 e4
    unfold readW
    rw [← HOP.out]
    rfl
   rw [hrd]
   exact fin_read (w := w) ⟨6, p1, p3, ⟨#[]⟩, ⟨#[]⟩, n2.1, zeroV⟩ rfl (by with_reducible repeat (first | exact HGR.out | refine (far_heap hgne _).trans ?_)) (KZ)
 obtain ⟨ad, ea, hx0⟩ := Kd.at_string HRW.out 0 (by omega) (by omega)
 cases ea
 obtain ⟨ad', ea, hx1⟩ := Kd.at_string HRW.out 1 (by omega) (by omega)
 cases ea
 change w1.cell? ad = some (.string (wd ws 0)) at hx0
 change w1.cell? ⟨ad.block, ad.off + 1, none⟩ = some (.string (wd ws 1)) at hx1
 have q0 : 0 < ws.length := by omega
 have q1 : 1 < ws.length := by omega
 have q1i : (1 : Int) < ws.length := by omega
 obtain ⟨p0, hp0⟩ : ∃ x, x = wd ws 0 := ⟨_, rfl⟩
 obtain ⟨p1, hp1⟩ : ∃ x, x = wd ws 1 := ⟨_, rfl⟩
 rw [← hp0] at hx0
 rw [← hp1] at hx1
 rw [← hp0, ← hp1] at REST
 have HIX : Jv (slices_Index_string_string.f 8 opWords p0 = some (opOf p0)) := ⟨opOf_is p0⟩
 obtain ⟨op, hop⟩ : ∃ x, x = opOf p0 := ⟨_, rfl⟩
 rw [← hop] at HIX REST
 have HRE := JN REST
 have hba := JO w1 _ hx0
 clear REST hop hp0 hp1
 have HCI : Jv (∀ (W : World) (b : Nat), W.heap[b]? = some (.cells #[.string ⟨#[97, 100, 100]⟩, .string ⟨#[100, 114, 111, 112]⟩, .string ⟨#[114, 101, 110, 97, 109, 101]⟩, .string ⟨#[115, 112, 108, 105, 116]⟩, .string ⟨#[106, 111, 105, 110]⟩, .string ⟨#[114, 101, 116, 121, 112, 101]⟩, .string ⟨#[115, 99, 97, 108, 101]⟩] 9 (0, 0)) → Calls Tryz.prog 79 #[.slice (some ⟨b, 0, none⟩) 7 7, .string p0] W fun e w' => e = .returned (.int .i64 op) ∧ Below W.heap.size W w') :=
  ⟨fun W b h => (slices_Index_string_string.calls 8 _ 7 opWords p0 op W (strs_C W b opWords h (by decide)) (by decide) HIX.out).mono fun e w' hh => ⟨hh.1, hh.2.below⟩⟩
 have HLA : Jv ((w1.alloc (.cells #[.string ⟨#[97, 100, 100]⟩, .string ⟨#[100, 114, 111, 112]⟩, .string ⟨#[114, 101, 110, 97, 109, 101]⟩, .string ⟨#[115, 112, 108, 105, 116]⟩, .string ⟨#[106, 111, 105, 110]⟩, .string ⟨#[114, 101, 116, 121, 112, 101]⟩, .string ⟨#[115, 99, 97, 108, 101]⟩] 9 (0, 0))).drew.heap[w1.heap.size]? = some (.cells #[.string ⟨#[97, 100, 100]⟩, .string ⟨#[100, 114, 111, 112]⟩, .string ⟨#[114, 101, 110, 97, 109, 101]⟩, .string ⟨#[115, 112, 108, 105, 116]⟩, .string ⟨#[106, 111, 105, 110]⟩, .string ⟨#[114, 101, 116, 121, 112, 101]⟩, .string ⟨#[115, 99, 97, 108, 101]⟩] 9 (0, 0))) := ⟨JF (heap_alloc_new w1 _)⟩
 have HLB : Jv (((w1.alloc (.cells #[.string ⟨#[97, 100, 100]⟩, .string ⟨#[100, 114, 111, 112]⟩, .string ⟨#[114, 101, 110, 97, 109, 101]⟩, .string ⟨#[115, 112, 108, 105, 116]⟩, .string ⟨#[106, 111, 105, 110]⟩, .string ⟨#[114, 101, 116, 121, 112, 101]⟩, .string ⟨#[115, 99, 97, 108, 101]⟩] 9 (0, 0))).alloc (.cells #[.int .i64 0, .string ⟨#[]⟩, .string ⟨#[]⟩, .string ⟨#[]⟩, .string ⟨#[]⟩, .int .i64 0, .int .i64 0, .int .i64 0, .string ⟨#[]⟩] 29 (0, 0))).drew.heap[w1.heap.size]? = some (.cells #[.string ⟨#[97, 100, 100]⟩, .string ⟨#[100, 114, 111, 112]⟩, .string ⟨#[114, 101, 110, 97, 109, 101]⟩, .string ⟨#[115, 112, 108, 105, 116]⟩, .string ⟨#[106, 111, 105, 110]⟩, .string ⟨#[114, 101, 116, 121, 112, 101]⟩, .string ⟨#[115, 99, 97, 108, 101]⟩] 9 (0, 0))) := ⟨JF (JE (heap_alloc_new w1 _) _)⟩
 have HLC : Jv (((w1.alloc (.cells #[.int .i64 0, .string ⟨#[]⟩, .string ⟨#[]⟩, .string ⟨#[]⟩, .string ⟨#[]⟩, .int .i64 0, .int .i64 0, .int .i64 0, .string ⟨#[]⟩] 29 (0, 0))).alloc (.cells #[.string ⟨#[97, 100, 100]⟩, .string ⟨#[100, 114, 111, 112]⟩, .string ⟨#[114, 101, 110, 97, 109, 101]⟩, .string ⟨#[115, 112, 108, 105, 116]⟩, .string ⟨#[106, 111, 105, 110]⟩, .string ⟨#[114, 101, 116, 121, 112, 101]⟩, .string ⟨#[115, 99, 97, 108, 101]⟩] 9 (0, 0))).drew.heap[w1.heap.size + 1]? = some (.cells #[.string ⟨#[97, 100, 100]⟩, .string ⟨#[100, 114, 111, 112]⟩, .string ⟨#[114, 101, 110, 97, 109, 101]⟩, .string ⟨#[115, 112, 108, 105, 116]⟩, .string ⟨#[106, 111, 105, 110]⟩, .string ⟨#[114, 101, 116, 121, 112, 101]⟩, .string ⟨#[115, 99, 97, 108, 101]⟩] 9 (0, 0))) := ⟨JF (by have := heap_alloc_new (w1.alloc (.cells #[.int .i64 0, .string ⟨#[]⟩, .string ⟨#[]⟩, .string ⟨#[]⟩, .string ⟨#[]⟩, .int .i64 0, .int .i64 0, .int .i64 0, .string ⟨#[]⟩] 29 (0, 0))) (.cells #[.string ⟨#[97, 100, 100]⟩, .string ⟨#[100, 114, 111, 112]⟩, .string ⟨#[114, 101, 110, 97, 109, 101]⟩, .string ⟨#[115, 112, 108, 105, 116]⟩, .string ⟨#[106, 111, 105, 110]⟩, .string ⟨#[114, 101, 116, 121, 112, 101]⟩, .string ⟨#[115, 99, 97, 108, 101]⟩] 9 (0, 0)); rwa [World.size_alloc] at this)⟩
 have hba' : ad.block < w1.heap.size := hba
 have na : w1.heap.size ≠ ad.block := by omega
 have nb : w1.heap.size + 1 ≠ ad.block := by omega
 have na' : ad.block ≠ w1.heap.size := by omega
 have nb' : ad.block ≠ w1.heap.size + 1 := by omega
 go_region_held3 (fun w' => w'.cell? ad = some (.string p0) ∧ w'.cell? ⟨ad.block, ad.off + 1, none⟩ = some (.string p1)) (go_keep) (first
  | (go_at_call 79; (with_reducible refine (HCI.out ((w1.alloc (.cells #[.string ⟨#[97, 100, 100]⟩, .string ⟨#[100, 114, 111, 112]⟩, .string ⟨#[114, 101, 110, 97, 109, 101]⟩, .string ⟨#[115, 112, 108, 105, 116]⟩, .string ⟨#[106, 111, 105, 110]⟩, .string ⟨#[114, 101, 116, 121, 112, 101]⟩, .string ⟨#[115, 99, 97, 108, 101]⟩] 9 (0, 0))).drew) w1.heap.size HLA.out).mono ?_); rintro e w2 ⟨rfl, hb⟩; have y0 : w2.cell? ad = some (.string p0) := (hb.cell (p := ad) (show ad.block < (w1.alloc _).heap.size by simp; omega)).trans (cell_alloc_l _ hx0); have y1 : w2.cell? ⟨ad.block, ad.off + 1, none⟩ = some (.string p1) := (hb.cell (p := ⟨ad.block, ad.off + 1, none⟩) (show ad.block < (w1.alloc _).heap.size by simp; omega)).trans (cell_alloc_l _ hx1); have hl1 : w1.heap.size < w2.heap.size := blk_lt (keep_one hb); have HBK := JN hb; clear hb)
  | (go_at_call 79; (with_reducible refine (HCI.out ((w1.alloc (.cells #[.string ⟨#[97, 100, 100]⟩, .string ⟨#[100, 114, 111, 112]⟩, .string ⟨#[114, 101, 110, 97, 109, 101]⟩, .string ⟨#[115, 112, 108, 105, 116]⟩, .string ⟨#[106, 111, 105, 110]⟩, .string ⟨#[114, 101, 116, 121, 112, 101]⟩, .string ⟨#[115, 99, 97, 108, 101]⟩] 9 (0, 0))).alloc (.cells #[.int .i64 0, .string ⟨#[]⟩, .string ⟨#[]⟩, .string ⟨#[]⟩, .string ⟨#[]⟩, .int .i64 0, .int .i64 0, .int .i64 0, .string ⟨#[]⟩] 29 (0, 0))).drew w1.heap.size HLB.out).mono ?_); rintro e w2 ⟨rfl, hb⟩; have y0 : w2.cell? ad = some (.string p0) := (hb.cell (p := ad) (show ad.block < ((w1.alloc _).alloc _).heap.size by simp; omega)).trans (cell_alloc_l _ (cell_alloc_l _ hx0)); have y1 : w2.cell? ⟨ad.block, ad.off + 1, none⟩ = some (.string p1) := (hb.cell (p := ⟨ad.block, ad.off + 1, none⟩) (show ad.block < ((w1.alloc _).alloc _).heap.size by simp; omega)).trans (cell_alloc_l _ (cell_alloc_l _ hx1)); have bx := (keep_two hb).2; have hl1 : w1.heap.size + 1 < w2.heap.size := blk_lt bx; have zc0 : w2.cell? ⟨w1.heap.size + 1, 0, none⟩ = some (.int .i64 0) := (Jw bx 0).trans rfl; have zf0 : w2.frozen? ⟨w1.heap.size + 1, 0, none⟩ = false := Jz bx 0; have zc1 : w2.cell? ⟨w1.heap.size + 1, 1, none⟩ = some (.string ⟨#[]⟩) := (Jw bx 1).trans rfl; have zf1 : w2.frozen? ⟨w1.heap.size + 1, 1, none⟩ = false := Jz bx 1; have zc2 : w2.cell? ⟨w1.heap.size + 1, 2, none⟩ = some (.string ⟨#[]⟩) := (Jw bx 2).trans rfl; have zf2 : w2.frozen? ⟨w1.heap.size + 1, 2, none⟩ = false := Jz bx 2; have zc3 : w2.cell? ⟨w1.heap.size + 1, 3, none⟩ = some (.string ⟨#[]⟩) := (Jw bx 3).trans rfl; have zf3 : w2.frozen? ⟨w1.heap.size + 1, 3, none⟩ = false := Jz bx 3; have zc4 : w2.cell? ⟨w1.heap.size + 1, 4, none⟩ = some (.string ⟨#[]⟩) := (Jw bx 4).trans rfl; have zf4 : w2.frozen? ⟨w1.heap.size + 1, 4, none⟩ = false := Jz bx 4; have zc5 : w2.cell? ⟨w1.heap.size + 1, 5, none⟩ = some (.int .i64 0) := (Jw bx 5).trans rfl; have zf5 : w2.frozen? ⟨w1.heap.size + 1, 5, none⟩ = false := Jz bx 5; have zc6 : w2.cell? ⟨w1.heap.size + 1, 6, none⟩ = some (.int .i64 0) := (Jw bx 6).trans rfl; have zf6 : w2.frozen? ⟨w1.heap.size + 1, 6, none⟩ = false := Jz bx 6; have zc7 : w2.cell? ⟨w1.heap.size + 1, 7, none⟩ = some (.int .i64 0) := (Jw bx 7).trans rfl; have zf7 : w2.frozen? ⟨w1.heap.size + 1, 7, none⟩ = false := Jz bx 7; have zc8 : w2.cell? ⟨w1.heap.size + 1, 8, none⟩ = some (.string ⟨#[]⟩) := (Jw bx 8).trans rfl; have zf8 : w2.frozen? ⟨w1.heap.size + 1, 8, none⟩ = false := Jz bx 8; have HBK := JN hb; clear hb)
  | (go_at_call 79; (with_reducible refine (HCI.out ((w1.alloc (.cells #[.int .i64 0, .string ⟨#[]⟩, .string ⟨#[]⟩, .string ⟨#[]⟩, .string ⟨#[]⟩, .int .i64 0, .int .i64 0, .int .i64 0, .string ⟨#[]⟩] 29 (0, 0))).alloc (.cells #[.string ⟨#[97, 100, 100]⟩, .string ⟨#[100, 114, 111, 112]⟩, .string ⟨#[114, 101, 110, 97, 109, 101]⟩, .string ⟨#[115, 112, 108, 105, 116]⟩, .string ⟨#[106, 111, 105, 110]⟩, .string ⟨#[114, 101, 116, 121, 112, 101]⟩, .string ⟨#[115, 99, 97, 108, 101]⟩] 9 (0, 0))).drew (w1.heap.size + 1) HLC.out).mono ?_); rintro e w2 ⟨rfl, hb⟩; have y0 : w2.cell? ad = some (.string p0) := (hb.cell (p := ad) (show ad.block < ((w1.alloc _).alloc _).heap.size by simp; omega)).trans (cell_alloc_l _ (cell_alloc_l _ hx0)); have y1 : w2.cell? ⟨ad.block, ad.off + 1, none⟩ = some (.string p1) := (hb.cell (p := ⟨ad.block, ad.off + 1, none⟩) (show ad.block < ((w1.alloc _).alloc _).heap.size by simp; omega)).trans (cell_alloc_l _ (cell_alloc_l _ hx1)); have bx := (keep_two hb).1; have hl1 : w1.heap.size < w2.heap.size := blk_lt bx; have zc0 : w2.cell? ⟨w1.heap.size, 0, none⟩ = some (.int .i64 0) := (Jw bx 0).trans rfl; have zf0 : w2.frozen? ⟨w1.heap.size, 0, none⟩ = false := Jz bx 0; have zc1 : w2.cell? ⟨w1.heap.size, 1, none⟩ = some (.string ⟨#[]⟩) := (Jw bx 1).trans rfl; have zf1 : w2.frozen? ⟨w1.heap.size, 1, none⟩ = false := Jz bx 1; have zc2 : w2.cell? ⟨w1.heap.size, 2, none⟩ = some (.string ⟨#[]⟩) := (Jw bx 2).trans rfl; have zf2 : w2.frozen? ⟨w1.heap.size, 2, none⟩ = false := Jz bx 2; have zc3 : w2.cell? ⟨w1.heap.size, 3, none⟩ = some (.string ⟨#[]⟩) := (Jw bx 3).trans rfl; have zf3 : w2.frozen? ⟨w1.heap.size, 3, none⟩ = false := Jz bx 3; have zc4 : w2.cell? ⟨w1.heap.size, 4, none⟩ = some (.string ⟨#[]⟩) := (Jw bx 4).trans rfl; have zf4 : w2.frozen? ⟨w1.heap.size, 4, none⟩ = false := Jz bx 4; have zc5 : w2.cell? ⟨w1.heap.size, 5, none⟩ = some (.int .i64 0) := (Jw bx 5).trans rfl; have zf5 : w2.frozen? ⟨w1.heap.size, 5, none⟩ = false := Jz bx 5; have zc6 : w2.cell? ⟨w1.heap.size, 6, none⟩ = some (.int .i64 0) := (Jw bx 6).trans rfl; have zf6 : w2.frozen? ⟨w1.heap.size, 6, none⟩ = false := Jz bx 6; have zc7 : w2.cell? ⟨w1.heap.size, 7, none⟩ = some (.int .i64 0) := (Jw bx 7).trans rfl; have zf7 : w2.frozen? ⟨w1.heap.size, 7, none⟩ = false := Jz bx 7; have zc8 : w2.cell? ⟨w1.heap.size, 8, none⟩ = some (.string ⟨#[]⟩) := (Jw bx 8).trans rfl; have zf8 : w2.frozen? ⟨w1.heap.size, 8, none⟩ = false := Jz bx 8; have HBK := JN hb; clear hb))
 ·
  have D : Below w1.heap.size w1 w2 := (bl_drew (bl_alloc (Below.refl _ _) (Nat.le_refl _) _)).trans (HBK.out.mono (by show w1.heap.size ≤ (w1.alloc _).heap.size; simp))
  have hs := D.size
  exact HRE.out _ _ _ _ _ _ _ _ _ _ _ _ (w2.alloc _) (bl_alloc (HB1.out.trans (D.mono (Nat.le_of_lt (blk_lt hb1)))) (by have := blk_lt hb1; omega) _) (JE (JJ hb1 D) _) (heap_alloc_new w2 _) (by simp) hs (bl_alloc D hs _) (Kd.C_alloc (Kd.C_below HRW.out D) _)
 ·
  have D : Below w1.heap.size w1 w2 := (bl_drew (bl_alloc (bl_alloc (Below.refl _ _) (Nat.le_refl _) _) (by simp) _)).trans (HBK.out.mono (by show w1.heap.size ≤ ((w1.alloc _).alloc _).heap.size; simp; omega))
  have hgw := blk_lt hb1
  have D2 := nine_below (b := w1.heap.size + 1) D (Nat.le_succ _) (.int .i64 op) (.string p1) (.string ⟨#[]⟩) (.string ⟨#[]⟩) (.string ⟨#[]⟩) (.int .i64 0) (.int .i64 0) (.int .i64 0) (.string ⟨#[]⟩)
  exact HRE.out _ _ _ _ _ _ _ _ _ _ _ _ _ (HB1.out.trans (D2.mono (Nat.le_of_lt hgw))) ((nine_far (by omega) _ _ _ _ _ _ _ _ _).trans (JJ hb1 D)) (put9 bx _ _ _ _ _ _ _ _ _) (by simp only [World.size_setCell]; exact blk_lt bx) (Nat.le_succ _) D2 (Kd.C_below HRW.out D2)
 ·
  have D : Below w1.heap.size w1 w2 := (bl_drew (bl_alloc (bl_alloc (Below.refl _ _) (Nat.le_refl _) _) (by simp) _)).trans (HBK.out.mono (by show w1.heap.size ≤ ((w1.alloc _).alloc _).heap.size; simp; omega))
  have hgw := blk_lt hb1
  have D2 := nine_below (b := w1.heap.size) D (Nat.le_refl _) (.int .i64 op) (.string p1) (.string ⟨#[]⟩) (.string ⟨#[]⟩) (.string ⟨#[]⟩) (.int .i64 0) (.int .i64 0) (.int .i64 0) (.string ⟨#[]⟩)
  exact HRE.out _ _ _ _ _ _ _ _ _ _ _ _ _ (HB1.out.trans (D2.mono (Nat.le_of_lt hgw))) ((nine_far (by omega) _ _ _ _ _ _ _ _ _).trans (JJ hb1 D)) (put9 bx _ _ _ _ _ _ _ _ _) (by simp only [World.size_setCell]; exact blk_lt bx) (Nat.le_refl _) D2 (Kd.C_below HRW.out D2)
section
attribute [local go_sem] max2_int min2_int max_two min_two pw_string_gtr
def value_Show.f (a0_0 : Int) (a0_1 : Int) (a0_2 : ByteArray) : Option (ByteArray) := (value_Right.f a0_0 a0_1 a0_2).bind fun t131 => (if t131 = true then (if a0_0 = 0 then ((text_Decimal.f a0_1).bind fun t132 => (some t132)) else (if a0_0 = 1 then ((text_Quote.f a0_2).bind fun t133 => (some t133)) else (if a0_1 = 1 then (some (⟨#[116, 114, 117, 101]⟩ : ByteArray)) else (some (⟨#[102, 97, 108, 115, 101]⟩ : ByteArray))))) else (some (⟨#[]⟩ : ByteArray)))
theorem value_Show.calls (a0_0 : Int) (a0_1 : Int) (a0_2 : ByteArray) (r : ByteArray) (w : World) (hG : Good w) (h : value_Show.f a0_0 a0_1 a0_2 = some r) :
  Calls Tryz.prog 72 #[.agg #[.int .i64 a0_0, .int .i64 a0_1, .string a0_2]] w fun e w' => e = .returned (.string r) ∧ Below w.heap.size w w' := by
 have hu27 := Tryz.underlying27
 have HG := JN hG
 clear hG
 have HB := JN (Below.refl w.heap.size w)
 have H : ((value_Right.f a0_0 a0_1 a0_2).bind fun t131 => (if t131 = true then (if a0_0 = 0 then ((text_Decimal.f a0_1).bind fun t132 => (some t132)) else (if a0_0 = 1 then ((text_Quote.f a0_2).bind fun t133 => (some t133)) else (if a0_1 = 1 then (some (⟨#[116, 114, 117, 101]⟩ : ByteArray)) else (some (⟨#[102, 97, 108, 115, 101]⟩ : ByteArray))))) else (some (⟨#[]⟩ : ByteArray)))) = some r := h
 clear h
 replace H := Option.bind_eq_some_iff.mp H
 obtain ⟨t131, A20, H⟩ := H
 replace H : (if t131 = true then (if a0_0 = 0 then ((text_Decimal.f a0_1).bind fun t132 => (some t132)) else (if a0_0 = 1 then ((text_Quote.f a0_2).bind fun t133 => (some t133)) else (if a0_1 = 1 then (some (⟨#[116, 114, 117, 101]⟩ : ByteArray)) else (some (⟨#[102, 97, 108, 115, 101]⟩ : ByteArray))))) else (some (⟨#[]⟩ : ByteArray))) = some r := H
 have A2 := JN A20
 clear A20
 by_cases c3 : t131 = true
 ·
  subst c3
  have H1 : (if a0_0 = 0 then ((text_Decimal.f a0_1).bind fun t132 => (some t132)) else (if a0_0 = 1 then ((text_Quote.f a0_2).bind fun t133 => (some t133)) else (if a0_1 = 1 then (some (⟨#[116, 114, 117, 101]⟩ : ByteArray)) else (some (⟨#[102, 97, 108, 115, 101]⟩ : ByteArray))))) = some r := by rw [if_pos rfl] at H; exact H
  clear H
  have H := H1
  clear H1
  by_cases c4 : a0_0 = 0
  ·
   rw [if_pos c4] at H
   have c4b0 : (a0_0 == 0) = true := beq_iff_eq.mpr c4
   have c4b1 : (a0_0 != 0) = false := bne_eq_false_iff_eq.mpr c4
   clear c4
   replace H := Option.bind_eq_some_iff.mp H
   obtain ⟨t132, A50, H⟩ := H
   replace H : (some t132) = some r := H
   have A5 := JN A50
   clear A50
   obtain rfl := Option.some.inj H
   go_enter Tryz.func72, Tryz.ntmps72
   go_wp2_with (first | ((with_reducible refine gate_dst (N := 1) rfl ?_); refine box_event ?hg (N := 1) ?hd (cs := #[.int .i64 a0_0, .int .i64 a0_1, .string a0_2]) (t := 27) ?hr ?_; (case hd => rfl); (case hg => rfl); (case hr => first | (go_simp; done) | (go_simp; rfl)); intro gb130 hg w6 hbox hb; have n0_ := JN (JB (Ka) hb); have n1_ := JN (hbox); have n2_ := JN ((Kk : w.heap.size ≤ gb130)); have n3_ := JN ((Kk : w.heap.size ≤ gb130)); clear HB; have HB := n0_; have BK130 := n1_; have GW130 := n2_; have GE130 := n3_; clear n0_ n1_ n2_ n3_; clear hb hbox hg; have hcz7_0 : w6.cell? ⟨gb130, 0, none⟩ = some (.int .i64 a0_0) := (Jw BK130.out 0).trans rfl; have hcz7_1 : w6.cell? ⟨gb130, 1, none⟩ = some (.int .i64 a0_1) := (Jw BK130.out 1).trans rfl; have hcz7_2 : w6.cell? ⟨gb130, 2, none⟩ = some (.string a0_2) := (Jw BK130.out 2).trans rfl; have hfz7_0 := Jz BK130.out 0; have hfz7_1 := Jz BK130.out 1; have hfz7_2 := Jz BK130.out 2) | ((with_reducible refine JM (f := 70) rfl ?_); refine goesL_ (some 5) rfl rfl Tryz.func70 (Kg) rfl #[.agg #[.int .i64 a0_0, .int .i64 a0_1, .string a0_2]] rfl (Ke) ?_; (with_reducible refine (value_Right.calls a0_0 a0_1 a0_2 true _ A2.out).mono ?_); rintro e w8 ⟨rfl, hb⟩; refine ⟨_, rfl, ?_⟩; have n0_ := JN (blk_below (g := gb130) (o := .cells #[.int .i64 a0_0, .int .i64 a0_1, .string a0_2] 27 (0, 0)) (KM) hb); have n1_ := JN (JB (Ks) hb); clear BK130; clear HB; have BK130 := n0_; have HB := n1_; clear n0_ n1_; (try clear hb); (try clear hb2); (try clear hk); (try clear hi); have hcz9_0 : w8.cell? ⟨gb130, 0, none⟩ = some (.int .i64 a0_0) := (Jw BK130.out 0).trans rfl; have hcz9_1 : w8.cell? ⟨gb130, 1, none⟩ = some (.int .i64 a0_1) := (Jw BK130.out 1).trans rfl; have hcz9_2 : w8.cell? ⟨gb130, 2, none⟩ = some (.string a0_2) := (Jw BK130.out 2).trans rfl; have hfz9_0 := Jz BK130.out 0; have hfz9_1 := Jz BK130.out 1; have hfz9_2 := Jz BK130.out 2) | ((with_reducible refine JM (f := 75) rfl ?_); refine goesL_ (some 13) rfl rfl Tryz.func75 (Kg) rfl #[.int .i64 a0_1] rfl (Ke) ?_; (with_reducible refine (text_Decimal.calls a0_1 t132 _ ?side1 A5.out).mono ?_); (case side1 => exact Good.below HG.out (Ks)); rintro e w10 ⟨rfl, hb⟩; refine ⟨_, rfl, ?_⟩; have n0_ := JN (blk_below (g := gb130) (o := .cells #[.int .i64 a0_0, .int .i64 a0_1, .string a0_2] 27 (0, 0)) (KM) hb); have n1_ := JN (JB (Ks) hb); clear BK130; clear HB; have BK130 := n0_; have HB := n1_; clear n0_ n1_; (try clear hb); (try clear hb2); (try clear hk); (try clear hi)))
   go_ret
   exact ⟨Kf, Ks⟩
  ·
   rw [if_neg c4] at H
   have c4b0 : (a0_0 == 0) = false := beq_eq_false_iff_ne.mpr c4
   have c4b1 : (a0_0 != 0) = true := bne_iff_ne.mpr c4
   by_cases c11 : a0_0 = 1
   ·
    rw [if_pos c11] at H
    have c11b0 : (a0_0 == 1) = true := beq_iff_eq.mpr c11
    have c11b1 : (a0_0 != 1) = false := bne_eq_false_iff_eq.mpr c11
    clear c11
    replace H := Option.bind_eq_some_iff.mp H
    obtain ⟨t133, A120, H⟩ := H
    replace H : (some t133) = some r := H
    have A12 := JN A120
    clear A120
    obtain rfl := Option.some.inj H
    go_enter Tryz.func72, Tryz.ntmps72
    go_wp2_with (first | ((with_reducible refine gate_dst (N := 1) rfl ?_); refine box_event ?hg (N := 1) ?hd (cs := #[.int .i64 a0_0, .int .i64 a0_1, .string a0_2]) (t := 27) ?hr ?_; (case hd => rfl); (case hg => rfl); (case hr => first | (go_simp; done) | (go_simp; rfl)); intro gb130 hg w13 hbox hb; have n0_ := JN (JB (Ka) hb); have n1_ := JN (hbox); have n2_ := JN ((Kk : w.heap.size ≤ gb130)); have n3_ := JN ((Kk : w.heap.size ≤ gb130)); clear HB; have HB := n0_; have BK130 := n1_; have GW130 := n2_; have GE130 := n3_; clear n0_ n1_ n2_ n3_; clear hb hbox hg; have hcz14_0 : w13.cell? ⟨gb130, 0, none⟩ = some (.int .i64 a0_0) := (Jw BK130.out 0).trans rfl; have hcz14_1 : w13.cell? ⟨gb130, 1, none⟩ = some (.int .i64 a0_1) := (Jw BK130.out 1).trans rfl; have hcz14_2 : w13.cell? ⟨gb130, 2, none⟩ = some (.string a0_2) := (Jw BK130.out 2).trans rfl; have hfz14_0 := Jz BK130.out 0; have hfz14_1 := Jz BK130.out 1; have hfz14_2 := Jz BK130.out 2) | ((with_reducible refine JM (f := 70) rfl ?_); refine goesL_ (some 5) rfl rfl Tryz.func70 (Kg) rfl #[.agg #[.int .i64 a0_0, .int .i64 a0_1, .string a0_2]] rfl (Ke) ?_; (with_reducible refine (value_Right.calls a0_0 a0_1 a0_2 true _ A2.out).mono ?_); rintro e w15 ⟨rfl, hb⟩; refine ⟨_, rfl, ?_⟩; have n0_ := JN (blk_below (g := gb130) (o := .cells #[.int .i64 a0_0, .int .i64 a0_1, .string a0_2] 27 (0, 0)) (KM) hb); have n1_ := JN (JB (Ks) hb); clear BK130; clear HB; have BK130 := n0_; have HB := n1_; clear n0_ n1_; (try clear hb); (try clear hb2); (try clear hk); (try clear hi); have hcz16_0 : w15.cell? ⟨gb130, 0, none⟩ = some (.int .i64 a0_0) := (Jw BK130.out 0).trans rfl; have hcz16_1 : w15.cell? ⟨gb130, 1, none⟩ = some (.int .i64 a0_1) := (Jw BK130.out 1).trans rfl; have hcz16_2 : w15.cell? ⟨gb130, 2, none⟩ = some (.string a0_2) := (Jw BK130.out 2).trans rfl; have hfz16_0 := Jz BK130.out 0; have hfz16_1 := Jz BK130.out 1; have hfz16_2 := Jz BK130.out 2) | ((with_reducible refine JM (f := 73) rfl ?_); refine goesL_ (some 20) rfl rfl Tryz.func73 (Kg) rfl #[.string a0_2] rfl (Ke) ?_; (with_reducible refine (text_Quote.calls a0_2 t133 _ A12.out).mono ?_); rintro e w17 ⟨rfl, hb⟩; refine ⟨_, rfl, ?_⟩; have n0_ := JN (blk_below (g := gb130) (o := .cells #[.int .i64 a0_0, .int .i64 a0_1, .string a0_2] 27 (0, 0)) (KM) hb); have n1_ := JN (JB (Ks) hb); clear BK130; clear HB; have BK130 := n0_; have HB := n1_; clear n0_ n1_; (try clear hb); (try clear hb2); (try clear hk); (try clear hi)))
    go_ret
    exact ⟨Kf, Ks⟩
   ·
    rw [if_neg c11] at H
    have c11b0 : (a0_0 == 1) = false := beq_eq_false_iff_ne.mpr c11
    have c11b1 : (a0_0 != 1) = true := bne_iff_ne.mpr c11
    by_cases c18 : a0_1 = 1
    ·
     rw [if_pos c18] at H
     have c18b0 : (a0_1 == 1) = true := beq_iff_eq.mpr c18
     have c18b1 : (a0_1 != 1) = false := bne_eq_false_iff_eq.mpr c18
     clear c18
     obtain rfl := Option.some.inj H
     go_enter Tryz.func72, Tryz.ntmps72
     go_wp2_with (first | ((with_reducible refine gate_dst (N := 1) rfl ?_); refine box_event ?hg (N := 1) ?hd (cs := #[.int .i64 a0_0, .int .i64 a0_1, .string a0_2]) (t := 27) ?hr ?_; (case hd => rfl); (case hg => rfl); (case hr => first | (go_simp; done) | (go_simp; rfl)); intro gb130 hg w19 hbox hb; have n0_ := JN (JB (Ka) hb); have n1_ := JN (hbox); have n2_ := JN ((Kk : w.heap.size ≤ gb130)); have n3_ := JN ((Kk : w.heap.size ≤ gb130)); clear HB; have HB := n0_; have BK130 := n1_; have GW130 := n2_; have GE130 := n3_; clear n0_ n1_ n2_ n3_; clear hb hbox hg; have hcz20_0 : w19.cell? ⟨gb130, 0, none⟩ = some (.int .i64 a0_0) := (Jw BK130.out 0).trans rfl; have hcz20_1 : w19.cell? ⟨gb130, 1, none⟩ = some (.int .i64 a0_1) := (Jw BK130.out 1).trans rfl; have hcz20_2 : w19.cell? ⟨gb130, 2, none⟩ = some (.string a0_2) := (Jw BK130.out 2).trans rfl; have hfz20_0 := Jz BK130.out 0; have hfz20_1 := Jz BK130.out 1; have hfz20_2 := Jz BK130.out 2) | ((with_reducible refine JM (f := 70) rfl ?_); refine goesL_ (some 5) rfl rfl Tryz.func70 (Kg) rfl #[.agg #[.int .i64 a0_0, .int .i64 a0_1, .string a0_2]] rfl (Ke) ?_; (with_reducible refine (value_Right.calls a0_0 a0_1 a0_2 true _ A2.out).mono ?_); rintro e w21 ⟨rfl, hb⟩; refine ⟨_, rfl, ?_⟩; have n0_ := JN (blk_below (g := gb130) (o := .cells #[.int .i64 a0_0, .int .i64 a0_1, .string a0_2] 27 (0, 0)) (KM) hb); have n1_ := JN (JB (Ks) hb); clear BK130; clear HB; have BK130 := n0_; have HB := n1_; clear n0_ n1_; (try clear hb); (try clear hb2); (try clear hk); (try clear hi); have hcz22_0 : w21.cell? ⟨gb130, 0, none⟩ = some (.int .i64 a0_0) := (Jw BK130.out 0).trans rfl; have hcz22_1 : w21.cell? ⟨gb130, 1, none⟩ = some (.int .i64 a0_1) := (Jw BK130.out 1).trans rfl; have hcz22_2 : w21.cell? ⟨gb130, 2, none⟩ = some (.string a0_2) := (Jw BK130.out 2).trans rfl; have hfz22_0 := Jz BK130.out 0; have hfz22_1 := Jz BK130.out 1; have hfz22_2 := Jz BK130.out 2))
     go_ret
     exact ⟨Kf, Ks⟩
    ·
     rw [if_neg c18] at H
     have c18b0 : (a0_1 == 1) = false := beq_eq_false_iff_ne.mpr c18
     have c18b1 : (a0_1 != 1) = true := bne_iff_ne.mpr c18
     obtain rfl := Option.some.inj H
     go_enter Tryz.func72, Tryz.ntmps72
     go_wp2_with (first | ((with_reducible refine gate_dst (N := 1) rfl ?_); refine box_event ?hg (N := 1) ?hd (cs := #[.int .i64 a0_0, .int .i64 a0_1, .string a0_2]) (t := 27) ?hr ?_; (case hd => rfl); (case hg => rfl); (case hr => first | (go_simp; done) | (go_simp; rfl)); intro gb130 hg w23 hbox hb; have n0_ := JN (JB (Ka) hb); have n1_ := JN (hbox); have n2_ := JN ((Kk : w.heap.size ≤ gb130)); have n3_ := JN ((Kk : w.heap.size ≤ gb130)); clear HB; have HB := n0_; have BK130 := n1_; have GW130 := n2_; have GE130 := n3_; clear n0_ n1_ n2_ n3_; clear hb hbox hg; have hcz24_0 : w23.cell? ⟨gb130, 0, none⟩ = some (.int .i64 a0_0) := (Jw BK130.out 0).trans rfl; have hcz24_1 : w23.cell? ⟨gb130, 1, none⟩ = some (.int .i64 a0_1) := (Jw BK130.out 1).trans rfl; have hcz24_2 : w23.cell? ⟨gb130, 2, none⟩ = some (.string a0_2) := (Jw BK130.out 2).trans rfl; have hfz24_0 := Jz BK130.out 0; have hfz24_1 := Jz BK130.out 1; have hfz24_2 := Jz BK130.out 2) | ((with_reducible refine JM (f := 70) rfl ?_); refine goesL_ (some 5) rfl rfl Tryz.func70 (Kg) rfl #[.agg #[.int .i64 a0_0, .int .i64 a0_1, .string a0_2]] rfl (Ke) ?_; (with_reducible refine (value_Right.calls a0_0 a0_1 a0_2 true _ A2.out).mono ?_); rintro e w25 ⟨rfl, hb⟩; refine ⟨_, rfl, ?_⟩; have n0_ := JN (blk_below (g := gb130) (o := .cells #[.int .i64 a0_0, .int .i64 a0_1, .string a0_2] 27 (0, 0)) (KM) hb); have n1_ := JN (JB (Ks) hb); clear BK130; clear HB; have BK130 := n0_; have HB := n1_; clear n0_ n1_; (try clear hb); (try clear hb2); (try clear hk); (try clear hi); have hcz26_0 : w25.cell? ⟨gb130, 0, none⟩ = some (.int .i64 a0_0) := (Jw BK130.out 0).trans rfl; have hcz26_1 : w25.cell? ⟨gb130, 1, none⟩ = some (.int .i64 a0_1) := (Jw BK130.out 1).trans rfl; have hcz26_2 : w25.cell? ⟨gb130, 2, none⟩ = some (.string a0_2) := (Jw BK130.out 2).trans rfl; have hfz26_0 := Jz BK130.out 0; have hfz26_1 := Jz BK130.out 1; have hfz26_2 := Jz BK130.out 2))
     go_ret
     exact ⟨Kf, Ks⟩
 ·
  replace c3 := Bool.eq_false_iff.mpr c3
  subst c3
  have H1 : (some (⟨#[]⟩ : ByteArray)) = some r := by rw [if_neg (show ¬ (false = true) by decide)] at H; exact H
  clear H
  have H := H1
  clear H1
  obtain rfl := Option.some.inj H
  go_enter Tryz.func72, Tryz.ntmps72
  go_wp2_with (first | ((with_reducible refine gate_dst (N := 1) rfl ?_); refine box_event ?hg (N := 1) ?hd (cs := #[.int .i64 a0_0, .int .i64 a0_1, .string a0_2]) (t := 27) ?hr ?_; (case hd => rfl); (case hg => rfl); (case hr => first | (go_simp; done) | (go_simp; rfl)); intro gb130 hg w27 hbox hb; have n0_ := JN (JB (Ka) hb); have n1_ := JN (hbox); have n2_ := JN ((Kk : w.heap.size ≤ gb130)); have n3_ := JN ((Kk : w.heap.size ≤ gb130)); clear HB; have HB := n0_; have BK130 := n1_; have GW130 := n2_; have GE130 := n3_; clear n0_ n1_ n2_ n3_; clear hb hbox hg; have hcz28_0 : w27.cell? ⟨gb130, 0, none⟩ = some (.int .i64 a0_0) := (Jw BK130.out 0).trans rfl; have hcz28_1 : w27.cell? ⟨gb130, 1, none⟩ = some (.int .i64 a0_1) := (Jw BK130.out 1).trans rfl; have hcz28_2 : w27.cell? ⟨gb130, 2, none⟩ = some (.string a0_2) := (Jw BK130.out 2).trans rfl; have hfz28_0 := Jz BK130.out 0; have hfz28_1 := Jz BK130.out 1; have hfz28_2 := Jz BK130.out 2) | ((with_reducible refine JM (f := 70) rfl ?_); refine goesL_ (some 5) rfl rfl Tryz.func70 (Kg) rfl #[.agg #[.int .i64 a0_0, .int .i64 a0_1, .string a0_2]] rfl (Ke) ?_; (with_reducible refine (value_Right.calls a0_0 a0_1 a0_2 false _ A2.out).mono ?_); rintro e w29 ⟨rfl, hb⟩; refine ⟨_, rfl, ?_⟩; have n0_ := JN (blk_below (g := gb130) (o := .cells #[.int .i64 a0_0, .int .i64 a0_1, .string a0_2] 27 (0, 0)) (KM) hb); have n1_ := JN (JB (Ks) hb); clear BK130; clear HB; have BK130 := n0_; have HB := n1_; clear n0_ n1_; (try clear hb); (try clear hb2); (try clear hk); (try clear hi)))
  go_ret
  exact ⟨Kf, Ks⟩
end
def unitTx (b : ByteArray) : ByteArray := if b.toList = ([] : List UInt8) then ⟨#[]⟩ else ⟨#[32]⟩ ++ b
def lineS (x : Step) (v q t d : ByteArray) : ByteArray :=
 if x.f0 = 0 then (((⟨#[97, 100, 100, 32]⟩ ++ x.f1) ++ ⟨#[32]⟩) ++ v) ++ unitTx x.f2
 else if x.f0 = 1 then ((⟨#[100, 114, 111, 112, 32]⟩ ++ x.f1) ++ ⟨#[32]⟩) ++ v
 else if x.f0 = 2 then (⟨#[114, 101, 110, 97, 109, 101, 32]⟩ ++ x.f1) ++ unitTx x.f2
 else if x.f0 = 3 then (((((⟨#[115, 112, 108, 105, 116, 32]⟩ ++ x.f1) ++ ⟨#[32]⟩) ++ q) ++ unitTx x.f2) ++ ⟨#[32]⟩) ++ x.f3
 else if x.f0 = 4 then (((((⟨#[106, 111, 105, 110, 32]⟩ ++ x.f1) ++ unitTx x.f2) ++ ⟨#[32]⟩) ++ q) ++ ⟨#[32]⟩) ++ x.f3
 else if x.f0 = 5 then ((((⟨#[114, 101, 116, 121, 112, 101, 32]⟩ ++ x.f1) ++ ⟨#[32]⟩) ++ t) ++ ⟨#[32]⟩) ++ v
 else (((⟨#[115, 99, 97, 108, 101, 32]⟩ ++ x.f1) ++ ⟨#[32]⟩) ++ d) ++ unitTx x.f2
theorem line_calls (op : Int) (A B C S : ByteArray) (N k m : Int) (s v q t d : ByteArray) (w : World) (hG : Good w)
  (hv : value_Show.f k m s = some v) (hq : text_Quote.f S = some q) (ht : op = 5 → shape_TypeName.f N = some t) (hd : text_Decimal.f N = some d)
  (ho : 0 ≤ op) (ho6 : op ≤ 6) (hz : A.size + B.size + C.size + v.size + q.size + t.size + d.size + 100 ≤ 9223372036854775807) :
  Calls Tryz.prog 37 #[.agg #[.int .i64 op, .string A, .string B, .string C, .string S, .int .i64 N, .int .i64 k, .int .i64 m, .string s]] w fun e w' => e = .returned (.string (lineS ⟨op, A, B, C, S, N, ⟨k, m, s⟩⟩ v q t d)) ∧ Below w.heap.size w w' := by
 have HG := JN hG
 have HV := JN hv
 have HQ := JN hq
 have HT := JN ht
 have HD := JN hd
 have HB0 : Jv (∀ o, Below w.heap.size w (w.alloc o)) := ⟨fun o => JD (Below.refl w.heap.size w) o⟩
 have BX0 : Jv (∀ o, (w.alloc o).heap[w.heap.size]? = some o) := ⟨fun o => heap_alloc_new w o⟩
 have hu1 := Tryz.underlying29
 have hu3 := Tryz.underlying27
 clear hG hv hq ht hd
 have hs0 : ¬ 9223372036854775807 < 1 + B.size := by omega
 have hs1 : ¬ 9223372036854775807 < 4 + A.size := by omega
 have hs2 : ¬ 9223372036854775807 < 4 + A.size + 1 := by omega
 have hs3 : ¬ 9223372036854775807 < 4 + A.size + 1 + v.size := by omega
 have hs4 : ¬ 9223372036854775807 < 4 + A.size + 1 + v.size + (1 + B.size) := by omega
 have hs5 : ¬ 9223372036854775807 < 5 + A.size := by omega
 have hs6 : ¬ 9223372036854775807 < 5 + A.size + (1 + B.size) := by omega
 have hs7 : ¬ 9223372036854775807 < 5 + A.size + (1 + B.size) + 1 := by omega
 have hs8 : ¬ 9223372036854775807 < 5 + A.size + (1 + B.size) + 1 + q.size := by omega
 have hs9 : ¬ 9223372036854775807 < 5 + A.size + (1 + B.size) + 1 + q.size + 1 := by omega
 have hs10 : ¬ 9223372036854775807 < 5 + A.size + (1 + B.size) + 1 + q.size + 1 + C.size := by omega
 have hs11 : ¬ 9223372036854775807 < 5 + A.size + 1 := by omega
 have hs12 : ¬ 9223372036854775807 < 5 + A.size + 1 + q.size := by omega
 have hs13 : ¬ 9223372036854775807 < 5 + A.size + 1 + q.size + 1 := by omega
 have hs14 : ¬ 9223372036854775807 < 5 + A.size + 1 + q.size + 1 + C.size := by omega
 have hs15 : ¬ 9223372036854775807 < 5 + A.size + 1 + v.size := by omega
 have hs16 : ¬ 9223372036854775807 < 6 + A.size := by omega
 have hs17 : ¬ 9223372036854775807 < 6 + A.size + 1 := by omega
 have hs18 : ¬ 9223372036854775807 < 6 + A.size + 1 + d.size := by omega
 have hs19 : ¬ 9223372036854775807 < 6 + A.size + 1 + d.size + (1 + B.size) := by omega
 have hs20 : ¬ 9223372036854775807 < 6 + A.size + 1 + q.size := by omega
 have hs21 : ¬ 9223372036854775807 < 6 + A.size + 1 + q.size + (1 + B.size) := by omega
 have hs22 : ¬ 9223372036854775807 < 6 + A.size + 1 + q.size + (1 + B.size) + 1 := by omega
 have hs23 : ¬ 9223372036854775807 < 6 + A.size + 1 + q.size + (1 + B.size) + 1 + C.size := by omega
 have hs24 : ¬ 9223372036854775807 < 6 + A.size + 1 + q.size + 1 := by omega
 have hs25 : ¬ 9223372036854775807 < 6 + A.size + 1 + q.size + 1 + C.size := by omega
 have hs26 : ¬ 9223372036854775807 < 7 + A.size := by omega
 have hs27 : ¬ 9223372036854775807 < 7 + A.size + (1 + B.size) := by omega
 have hs28 : ¬ 9223372036854775807 < 7 + A.size + 1 := by omega
 have hs29 : ¬ 9223372036854775807 < 7 + A.size + 1 + t.size := by omega
 have hs30 : ¬ 9223372036854775807 < 7 + A.size + 1 + t.size + 1 := by omega
 have hs31 : ¬ 9223372036854775807 < 7 + A.size + 1 + t.size + 1 + v.size := by omega
 clear hz
 go_enter Tryz.func37, Tryz.ntmps37
 go_wp2
 have bx4 : (w.alloc (.cells #[.int .i64 op, .string A, .string B, .string C, .string S, .int .i64 N, .int .i64 k, .int .i64 m, .string s] 29 (0, 0))).cell? ⟨w.heap.size, 4, none⟩ = some (.string S) := (Jw (BX0.out _) 4).trans rfl
 have bx6 : (w.alloc (.cells #[.int .i64 op, .string A, .string B, .string C, .string S, .int .i64 N, .int .i64 k, .int .i64 m, .string s] 29 (0, 0))).cell? ⟨w.heap.size, 6, none⟩ = some (.int .i64 k) := (Jw (BX0.out _) 6).trans rfl
 have bx7 : (w.alloc (.cells #[.int .i64 op, .string A, .string B, .string C, .string S, .int .i64 N, .int .i64 k, .int .i64 m, .string s] 29 (0, 0))).cell? ⟨w.heap.size, 7, none⟩ = some (.int .i64 m) := (Jw (BX0.out _) 7).trans rfl
 have bx8 : (w.alloc (.cells #[.int .i64 op, .string A, .string B, .string C, .string S, .int .i64 N, .int .i64 k, .int .i64 m, .string s] 29 (0, 0))).cell? ⟨w.heap.size, 8, none⟩ = some (.string s) := (Jw (BX0.out _) 8).trans rfl
 go_region_held3 (fun w' => w'.cell? ⟨w.heap.size, 4, none⟩ = some (.string S) ∧ w'.cell? ⟨w.heap.size, 6, none⟩ = some (.int .i64 k) ∧ w'.cell? ⟨w.heap.size, 7, none⟩ = some (.int .i64 m) ∧ w'.cell? ⟨w.heap.size, 8, none⟩ = some (.string s)) (first | exact ⟨bx4, bx6, bx7, bx8⟩ | exact ⟨ybx4, ybx6, ybx7, ybx8⟩ | exact ⟨zbx4, zbx6, zbx7, zbx8⟩) (first | (go_at_call 72; with_reducible refine (value_Show.calls _ _ _ _ _ (HG.out.below (JH (HB0.out _))) HV.out).mono ?_; rintro e wa ⟨rfl, hb⟩; have BXa := JN (JJ (JF (BX0.out (.cells #[.int .i64 op, .string A, .string B, .string C, .string S, .int .i64 N, .int .i64 k, .int .i64 m, .string s] 29 (0, 0)))) hb); have HBa := JN (JA (JH (HB0.out _)) (JH (HB0.out _)).size hb); have ybx4 : wa.cell? ⟨w.heap.size, 4, none⟩ = some (.string S) := (Jw BXa.out 4).trans rfl; have ybx6 : wa.cell? ⟨w.heap.size, 6, none⟩ = some (.int .i64 k) := (Jw BXa.out 6).trans rfl; have ybx7 : wa.cell? ⟨w.heap.size, 7, none⟩ = some (.int .i64 m) := (Jw BXa.out 7).trans rfl; have ybx8 : wa.cell? ⟨w.heap.size, 8, none⟩ = some (.string s) := (Jw BXa.out 8).trans rfl; clear hb) | (go_at_call 73; with_reducible refine (text_Quote.calls _ _ _ HQ.out).mono ?_; rintro e w1 ⟨rfl, hb⟩; have BX := JN (JJ BXa.out hb); have HB := JN (JA HBa.out HBa.out.size hb); have zbx4 : w1.cell? ⟨w.heap.size, 4, none⟩ = some (.string S) := (Jw BX.out 4).trans rfl; have zbx6 : w1.cell? ⟨w.heap.size, 6, none⟩ = some (.int .i64 k) := (Jw BX.out 6).trans rfl; have zbx7 : w1.cell? ⟨w.heap.size, 7, none⟩ = some (.int .i64 m) := (Jw BX.out 7).trans rfl; have zbx8 : w1.cell? ⟨w.heap.size, 8, none⟩ = some (.string s) := (Jw BX.out 8).trans rfl; clear hb))
 clear bx4 bx6 bx7 bx8
 have zbx0 : w1.cell? ⟨w.heap.size, 0, none⟩ = some (.int .i64 op) := (Jw BX.out 0).trans rfl
 have zbx1 : w1.cell? ⟨w.heap.size, 1, none⟩ = some (.string A) := (Jw BX.out 1).trans rfl
 have zbx2 : w1.cell? ⟨w.heap.size, 2, none⟩ = some (.string B) := (Jw BX.out 2).trans rfl
 have zbx3 : w1.cell? ⟨w.heap.size, 3, none⟩ = some (.string C) := (Jw BX.out 3).trans rfl
 have zbx5 : w1.cell? ⟨w.heap.size, 5, none⟩ = some (.int .i64 N) := (Jw BX.out 5).trans rfl
 go_wp2
 all_goals (try (go_region_held3 (fun w' => w'.cell? ⟨w.heap.size, 1, none⟩ = some (.string A) ∧ w'.cell? ⟨w.heap.size, 5, none⟩ = some (.int .i64 N)) (first | exact ⟨zbx1, zbx5⟩ | exact ⟨ubx1, ubx5⟩) (first | (go_at_call 74; with_reducible refine (shape_TypeName.calls _ _ _ (HT.out (by first | omega | exact eq_of_beq (Jq)))).mono ?_; rintro e w2 ⟨rfl, hb⟩; have BX2 := JN (JJ (JF BX.out) hb); have HB2 := JN (JA (JH HB.out) (JH HB.out).size hb); have ubx1 : w2.cell? ⟨w.heap.size, 1, none⟩ = some (.string A) := (Jw BX2.out 1).trans rfl; have ubx5 : w2.cell? ⟨w.heap.size, 5, none⟩ = some (.int .i64 N) := (Jw BX2.out 5).trans rfl; clear hb) | (go_at_call 75; with_reducible refine (text_Decimal.calls _ _ _ (HG.out.below (JH HB.out)) HD.out).mono ?_; rintro e w2 ⟨rfl, hb⟩; have BX2 := JN (JJ (JF BX.out) hb); have HB2 := JN (JA (JH HB.out) (JH HB.out).size hb); have ubx1 : w2.cell? ⟨w.heap.size, 1, none⟩ = some (.string A) := (Jw BX2.out 1).trans rfl; have ubx5 : w2.cell? ⟨w.heap.size, 5, none⟩ = some (.int .i64 N) := (Jw BX2.out 5).trans rfl; clear hb))))
 all_goals (try go_wp2)
 all_goals go_ret
 all_goals (refine ⟨?_, by first | exact HB2.out | exact HB.out⟩)
 all_goals (clear hu1 hu3 HB0 BX0 HB HBa BX BXa HV HQ HT HD HG)
 all_goals (congr 2)
 all_goals (simp_all [lineS, unitTx])
theorem ownsRow_belowP {B : Nat} {e : TypeId} {k : Nat} {v : Value} {n : Nat} {xs : List Value} {w w' : World} (h : w.ownsRow B e k v n xs) (hb : Below w.heap.size w w') : w'.ownsRow B e k v n xs := by
 refine ⟨h.1, ?_⟩
 rcases h.2 with h | ⟨g, cap, cur, e1, e2, e3, e4⟩
 ·
  exact .inl h
 ·
  refine .inr ⟨g, cap, cur, e1, e2, ?_, e4⟩
  have : g < w.heap.size := by
   rcases Nat.lt_or_ge g w.heap.size with h' | h'
   ·
    exact h'
   ·
    simp [Array.getElem?_eq_none h'] at e3
  rw [hb.block g this]; exact e3
theorem bAtP_below {T e : TypeId} {B b : Nat} {p : Value} {bs : List Value} {w w' : World} (h : Lib.BuilderAt T e B b p bs w) (hb : Below w.heap.size w w') : Lib.BuilderAt T e B b p bs w' := by
 obtain ⟨h0, v, h1, h2, h3⟩ := h
 refine ⟨h0, v, ?_, ownsRow_belowP h2 hb, h3⟩
 have : b < w.heap.size := by
  rcases Nat.lt_or_ge b w.heap.size with h' | h'
  ·
   exact h'
  ·
   simp [Array.getElem?_eq_none h'] at h1
 rw [hb.block b this]; exact h1
theorem Bd.below {w w' : World} {B b : Nat} {l : List UInt8} (h : Bd w B b l) (hb : Below w.heap.size w w') : Bd w' B b l :=
 h.elim (fun x => .inl (bAtP_below x hb)) (fun x => .inr (bAtP_below x hb))
theorem bq_below {B b : Nat} {l : List UInt8} {w w0 w1 : World} (h : Bq B b l w w0) (hb : Below w0.heap.size w0 w1) : Bq B b l w w1 :=
 ⟨h.1.below hb, h.2.1.trans (hb.mono (Nat.le_trans h.2.2 h.2.1.size)), h.2.2⟩
def showB (k m : Int) (s : ByteArray) : ByteArray := (value_Show.f k m s).getD ⟨#[]⟩
def quoteT (s : ByteArray) : ByteArray := ⟨(quoteL s.data.toList).toArray⟩
def typeT (n : Int) : ByteArray := (shape_TypeName.f n).getD ⟨#[]⟩
theorem right_ex (k m : Int) (s : ByteArray) : ∃ b, value_Right.f k m s = some b := by
 unfold value_Right.f value_Int.f value_Text.f
 simp only [Option.bind_some]
 repeat' split
 all_goals first
  | exact ⟨_, rfl⟩
  | (
    obtain ⟨x, hx⟩ : ∃ x, value_Bool.f false = some x := ⟨_, rfl⟩
    obtain ⟨y, hy⟩ : ∃ x, value_Bool.f true = some x := ⟨_, rfl⟩
    rw [hx, hy]; simp only [Option.bind_some]; split <;> exact ⟨_, rfl⟩)
theorem show_is (k m : Int) (s : ByteArray) (h0 : -9223372036854775808 ≤ m) (h1 : m ≤ 9223372036854775807) (hs : s.size ≤ 1099511627776) : value_Show.f k m s = some (showB k m s) := by
 obtain ⟨b, hb⟩ := right_ex k m s
 have hd : text_Decimal.f m = some (itoaB m) := by unfold text_Decimal.f; rw [if_pos ⟨h0, h1⟩]
 have hq : text_Quote.f s = some (quoteT s) := by unfold text_Quote.f; rw [if_pos (by omega)]; rfl
 have : ∃ r, value_Show.f k m s = some r := by
  unfold value_Show.f
  rw [hb, hd, hq]
  simp only [Option.bind_some]
  repeat' split
  all_goals exact ⟨_, rfl⟩
 obtain ⟨r, hr⟩ := this
 simp [showB, hr]
theorem type_is (n : Int) : shape_TypeName.f n = some (typeT n) := by
 have : ∃ r, shape_TypeName.f n = some r := by
  unfold shape_TypeName.f shape_types.f
  simp only [Option.bind_some]
  repeat' split
  all_goals first | exact ⟨_, rfl⟩ | (exfalso; simp at *; omega)
 obtain ⟨r, hr⟩ := this
 simp [typeT, hr]
def lineT (x : Step) : ByteArray := lineS x (showB x.f6.f0 x.f6.f1 x.f6.f2) (quoteT x.f4) (typeT x.f5) (itoaB x.f5)
def LineOk (x : Step) : Prop := -9223372036854775808 ≤ x.f5 ∧ x.f5 ≤ 9223372036854775807 ∧ -9223372036854775808 ≤ x.f6.f1 ∧ x.f6.f1 ≤ 9223372036854775807 ∧ x.f1.size ≤ 1048576 ∧ x.f2.size ≤ 1048576 ∧ x.f3.size ≤ 1048576 ∧ x.f4.size ≤ 1048576 ∧ x.f6.f2.size ≤ 1048576
theorem itoaB_size (n : Int) (h0 : -9223372036854775808 ≤ n) (h1 : n ≤ 9223372036854775807) : (itoaB n).size ≤ 21 := by
 have := Lib.itoa_length_le n h0 h1
 simpa [itoaB, ByteArray.size] using this
theorem quoteT_size (s : ByteArray) : (quoteT s).size ≤ 4 * s.size + 2 := by
 have := quoteM_len s.data.toList
 have e : (quoteT s).size = (quoteM s.data.toList).length + 2 := by
  show (List.toArray (34 :: quoteM s.data.toList ++ [34])).size = _
  simp only [List.size_toArray, List.length_append, List.length_cons, List.length_nil]
 have e2 : s.data.toList.length = s.size := Array.length_toList
 omega
theorem typeT_size (n : Int) : (typeT n).size ≤ 4 := by
 have h := type_is n
 unfold shape_TypeName.f shape_types.f at h
 simp only [Option.bind_some] at h
 repeat' split at h
 all_goals first
  | (rw [← Option.some.inj h]; decide)
  | (cases h; done)
  | (
    rw [← Option.some.inj h]
    obtain rfl | rfl | rfl : n = 0 ∨ n = 1 ∨ n = 2 := (by omega)
    all_goals decide)
theorem showB_size (k m : Int) (s : ByteArray) (h0 : -9223372036854775808 ≤ m) (h1 : m ≤ 9223372036854775807) (hs : s.size ≤ 1048576) : (showB k m s).size ≤ 4 * s.size + 30 := by
 have h := show_is k m s h0 h1 (by omega)
 obtain ⟨b, hb⟩ := right_ex k m s
 have hd : text_Decimal.f m = some (itoaB m) := by unfold text_Decimal.f; rw [if_pos ⟨h0, h1⟩]
 have hq : text_Quote.f s = some (quoteT s) := by unfold text_Quote.f; rw [if_pos (by omega)]; rfl
 have h2 := itoaB_size m h0 h1
 have h3 := quoteT_size s
 unfold value_Show.f at h
 rw [hb, hd, hq] at h
 simp only [Option.bind_some] at h
 repeat' split at h
 all_goals (have := Option.some.inj h; rw [← this]; first | omega | (have e : ∀ a : Array UInt8, (ByteArray.mk a).size = a.size := (fun _ => rfl); simp only [e]; simp))
theorem line_full (x : Step) (w : World) (hG : Good w) (ok : LineOk x) (hr : rightS x = true) :
  Calls Tryz.prog 37 #[.agg #[.int .i64 x.f0, .string x.f1, .string x.f2, .string x.f3, .string x.f4, .int .i64 x.f5, .int .i64 x.f6.f0, .int .i64 x.f6.f1, .string x.f6.f2]] w fun e w' => e = .returned (.string (lineT x)) ∧ Below w.heap.size w w' := by
 obtain ⟨o1, o2, o3, o4, o5, o6, o7, o8, o9⟩ := ok
 have h2 := itoaB_size x.f5 o1 o2
 have h3 := quoteT_size x.f4
 have h4 := typeT_size x.f5
 have h5 := showB_size x.f6.f0 x.f6.f1 x.f6.f2 o3 o4 o9
 have h6 := rightS_op hr
 refine (line_calls x.f0 x.f1 x.f2 x.f3 x.f4 x.f5 x.f6.f0 x.f6.f1 x.f6.f2 _ _ _ _ w hG (show_is _ _ _ o3 o4 (by omega)) (by unfold text_Quote.f; rw [if_pos (by omega)]) (fun _ => type_is _) (by unfold text_Decimal.f; rw [if_pos ⟨o1, o2⟩]) (by omega) (by omega) ?_).mono ?_
 ·
  simp only [quoteT] at h3; omega
 ·
  exact fun e w' h => h
def partL (l : List Step) : List UInt8 := (l.map fun x => (lineT x).data.toList ++ [10]).flatten
theorem lineT_size (x : Step) (ok : LineOk x) : (lineT x).size ≤ 33554432 := by
 obtain ⟨o1, o2, o3, o4, o5, o6, o7, o8, o9⟩ := ok
 have h2 := itoaB_size x.f5 o1 o2
 have h3 := quoteT_size x.f4
 have h4 := typeT_size x.f5
 have h5 := showB_size x.f6.f0 x.f6.f1 x.f6.f2 o3 o4 o9
 have h6 : (unitTx x.f2).size ≤ x.f2.size + 1 := by
  unfold unitTx
  split
  ·
   exact Nat.zero_le _
  ·
   rw [ByteArray.size_append]; show 1 + _ ≤ _; omega
 have e0 : (⟨#[32]⟩ : ByteArray).size = 1 := rfl
 have e1 : (⟨#[97, 100, 100, 32]⟩ : ByteArray).size = 4 := rfl
 have e2 : (⟨#[100, 114, 111, 112, 32]⟩ : ByteArray).size = 5 := rfl
 have e3 : (⟨#[114, 101, 110, 97, 109, 101, 32]⟩ : ByteArray).size = 7 := rfl
 have e4 : (⟨#[115, 112, 108, 105, 116, 32]⟩ : ByteArray).size = 6 := rfl
 have e5 : (⟨#[106, 111, 105, 110, 32]⟩ : ByteArray).size = 5 := rfl
 have e6 : (⟨#[114, 101, 116, 121, 112, 101, 32]⟩ : ByteArray).size = 7 := rfl
 have e7 : (⟨#[115, 99, 97, 108, 101, 32]⟩ : ByteArray).size = 6 := rfl
 unfold lineT lineS
 repeat' split
 all_goals (simp only [ByteArray.size_append, e0, e1, e2, e3, e4, e5, e6, e7]; omega)
theorem partL_len (l : List Step) (ok : ∀ x ∈ l, LineOk x) : (partL l).length ≤ l.length * 33554433 := by
 induction l with
 | nil => simp [partL]
 | cons x l ih =>
  have h1 := ih (fun y hy => ok y (List.mem_cons_of_mem _ hy))
  have h2 := lineT_size x (ok x (List.mem_cons_self ..))
  have e2 : (lineT x).data.toList.length = (lineT x).size := Array.length_toList
  have e : partL (x :: l) = ((lineT x).data.toList ++ [10]) ++ partL l := rfl
  rw [e, List.length_append, List.length_append, List.length_cons, List.length_cons, List.length_nil, e2]
  omega
def printS (l : List Step) : ByteArray := if l.all rightS = true then ⟨(partL l).toArray⟩ else ⟨#[]⟩
theorem take_snocS (l : List Step) (k : Nat) (h : k < l.length) : l.take (k + 1) = l.take k ++ [Jy l k] := by
 rw [List.take_add_one, List.getElem?_eq_getElem h]
 simp [Jy, h]
theorem partL_snoc (l : List Step) (x : Step) : partL (l ++ [x]) = partL l ++ (lineT x ++ (⟨#[10]⟩ : ByteArray)).data.toList := by
 unfold partL
 rw [List.map_append, List.flatten_append, ByteArray.data_append, Array.toList_append]
 simp only [List.map_cons, List.map_nil, List.flatten_cons, List.flatten_nil, List.append_nil]
theorem print_calls (A0 : Option Addr) (c0 : Nat) (l : List Step) (w : World) (hG : Good w) (hr0 : Kd.C k29 w A0 l.length l) (hc0 : l.length ≤ c0) (hn : l.length ≤ 1000) (ok : ∀ x ∈ l, LineOk x) :
  Calls Tryz.prog 12 #[.slice A0 l.length c0] w fun e w' => e = .returned (.string (printS l)) ∧ Below w.heap.size w w' := by
 have HR := JN hr0
 have HG := JN hG
 have HK := JN ok
 have HQ := JN (bq_new w)
 have hu1 := Tryz.underlying29
 have hu3 := Tryz.underlying27
 clear hr0 hG ok
 go_enter Tryz.func12, Tryz.ntmps12
 go_wp2
 go_loopw [8] (fun i wr => ∃ k : Nat, i = .int .i64 k ∧ k ≤ l.length ∧ Jv (Bq w.heap.size w.heap.size (partL (l.take k)) w wr) ∧ Jv (∀ x ∈ l.take k, rightS x = true)) (fun i _ => l.length - (intOf i).toNat)
 case atStart => exact ⟨0, by go_num, Nat.zero_le _, ⟨HQ.out⟩, ⟨by simp⟩⟩
 case round =>
  obtain ⟨k, rfl, hk, HQ1, HA⟩ := hrel
  clear HQ
  by_cases hlt : k < l.length
  ·
   have HLT := JN hlt
   obtain ⟨ad, rfl, hx0, hx1, hx2, hx3, hx4, hx5, hx6, hx7, hx8⟩ := at_T29 (Kd.C_below HR.out HQ1.out.2.1) k (by omega) (by omega)
   obtain ⟨x, hx⟩ : ∃ x, x = Jy l k := ⟨_, rfl⟩
   rw [← hx, Int.toNat_natCast] at hx0 hx1 hx2 hx3 hx4 hx5 hx6 hx7 hx8
   have HX := JN hx
   have HOK : Jv (LineOk x) := ⟨HK.out x (by rw [hx]; simp [Jy, hlt])⟩
   have BX0 : Jv (∀ o, (wr.alloc o).heap[wr.heap.size]? = some o) := ⟨fun o => heap_alloc_new wr o⟩
   have HQ0 : Jv (∀ o, Bq w.heap.size w.heap.size (partL (l.take k)) w (wr.alloc o)) := ⟨fun o => bq_below HQ1.out (JD (Below.refl wr.heap.size wr) o)⟩
   have HRT : Jv (∀ W, Calls Tryz.prog 11 #[.agg #[.int .i64 x.f0, .string x.f1, .string x.f2, .string x.f3, .string x.f4, .int .i64 x.f5, .int .i64 x.f6.f0, .int .i64 x.f6.f1, .string x.f6.f2]] W fun e w' => e = .returned (.bool (rightS x)) ∧ Below W.heap.size W w') := ⟨fun W => sright_calls x W⟩
   obtain ⟨b, hb⟩ : ∃ b, b = rightS x := ⟨_, rfl⟩
   rw [← hb] at HRT
   have HB := JN hb
   clear hx hb
   have HLN : Jv (∀ W, Good W → (!b) = false → Calls Tryz.prog 37 #[.agg #[.int .i64 x.f0, .string x.f1, .string x.f2, .string x.f3, .string x.f4, .int .i64 x.f5, .int .i64 x.f6.f0, .int .i64 x.f6.f1, .string x.f6.f2]] W fun e w' => e = .returned (.string (lineT x)) ∧ Below W.heap.size W w') := ⟨fun W g h => line_full x W g HOK.out (by rw [← HB.out]; simpa using h)⟩
   obtain ⟨tx, htx⟩ : ∃ tx, tx = lineT x := ⟨_, rfl⟩
   have hts : tx.size ≤ 33554432 := by rw [htx]; exact lineT_size x HOK.out
   have hts2 : ¬ 9223372036854775807 < tx.size + 1 := by omega
   rw [← htx] at HLN
   have HTX := JN htx
   have HPL : Jv ((partL (l.take k)).length ≤ 1000 * 33554433) := ⟨by
    have h := partL_len (l.take k) (fun y hy => HK.out y (List.mem_of_mem_take hy))
    have : (l.take k).length ≤ 1000 := by rw [List.length_take]; omega
    exact Nat.le_trans h (Nat.mul_le_mul_right _ this)⟩
   have HLEN : Jv ((partL (l.take k)).length + (tx ++ (⟨#[10]⟩ : ByteArray)).size ≤ 140737488355328) := ⟨by have := HPL.out; rw [ByteArray.size_append]; show _ + (_ + 1) ≤ _; omega⟩
   clear htx
   obtain ⟨op, A, B, C, S, N, v6, m, s⟩ := x
   go_wp2_with (first
    | (go_at_call 11; (with_reducible refine (HRT.out _).mono ?_); rintro e w1 ⟨rfl, hb⟩; obtain ⟨hc, hf⟩ := bcell2 hb; have hz : wr.heap.size < w1.heap.size := by { have h_ := hb.size; (try simp at h_); omega }; have HQ2 := JN (bq_below (HQ0.out _) hb); have HG2 := JN (HG.out.below HQ2.out.2.1); clear hb)
    | (go_at_call 37; (with_reducible refine (HLN.out _ HG2.out (Jq)).mono ?_); rintro e w2 ⟨rfl, hb⟩; have HQ3 := JN (bq_below HQ2.out hb); clear hb)
    | (go_at_call 36; (with_reducible refine (bq_string HQ3.out _ HLEN.out).mono ?_); rintro e w3 ⟨rfl, hq⟩; have HQ4 := JN hq; clear hq))
   ·
    go_ret
    refine ⟨?_, (HQ2.out.2.1)⟩
    have hf : ¬ l.all rightS = true := by
     intro h
     have h2 := List.all_eq_true.1 h _ (by rw [HX.out]; simp only [Jy, Int.toNat_natCast, List.getD_eq_getElem?_getD, List.getElem?_eq_getElem HLT.out, Option.getD_some]; exact List.getElem_mem HLT.out : (⟨op, A, B, C, S, N, ⟨v6, m, s⟩⟩ : Step) ∈ l)
     rw [← HB.out] at h2
     simp_all
    simp only [printS, if_neg hf]; rfl
   all_goals
    go_roundw
    case rel =>
     refine ⟨k + 1, by go_num, by omega, ⟨?_⟩, ⟨?_⟩⟩
     ·
      have h := HQ4.out
      rw [HTX.out, ← partL_snoc, HX.out, ← take_snocS l k HLT.out] at h
      exact h
     ·
      intro y hy
      rw [take_snocS l k HLT.out, List.mem_append, List.mem_singleton] at hy
      rcases hy with hy | hy
      ·
       exact HA.out y hy
      ·
       rw [hy, ← HX.out, ← HB.out]; simp_all
    case measure => simp [intOf]; omega
  ·
   go_wp2_with (go_at_call 38; refine (bq_text HQ1.out).mono ?_; rintro e w1 ⟨rfl, hb⟩; have HB := JN hb; clear hb)
   go_ret
   have hkl : k = l.length := by omega
   refine ⟨?_, HB.out⟩
   have ha : l.all rightS = true := List.all_eq_true.2 (by have := HA.out; rw [hkl, List.take_length] at this; exact this)
   rw [hkl, List.take_length]
   simp only [printS, if_pos ha]; rfl
end Go.Proofs.YtehjelobaflheaaGreatDoor.P
namespace Go.Proofs.YtehjelobaflheaaGreatDoor.P
open Go.RowKit
theorem any_one {F : Fence} {n : Nat} {P : Program} {ops : Array Oper} {Q : Exit → Act → World → Prop} {fuel : Nat} {listed next : Array Bool} {a : Act} {w : World} {i : Nat} {o : Oper}
  (hr : Region.ready .any ops listed = [i]) (ho : ops[i]? = some o) (hw : ∀ y, Region.wanted o y = true) (hn : listed.setIfInBounds i true = next)
  (h : ∀ K : Act → World → Prop, (∀ a w, wpAnyIn F n P .any ops Q fuel next a w → K a w) → Oper.wpIn F n P o a w K Q) : wpAnyIn F n P .any ops Q (fuel + 1) listed a w := by
 refine wpAnyIn_ready hr (by simp) (AllReadyIn.cons ho (fun K hK => ?_) AllReadyIn.nil)
 rw [hw, if_pos rfl]
 exact h K (fun a w hh => hK a w (by rw [hn]; exact hh))
theorem any_two {F : Fence} {n : Nat} {P : Program} {ops : Array Oper} {Q : Exit → Act → World → Prop} {fuel : Nat} {listed next next' : Array Bool} {a : Act} {w : World} {i j : Nat} {o o' : Oper}
  (hr : Region.ready .any ops listed = [i, j]) (ho : ops[i]? = some o) (hw : ∀ y, Region.wanted o y = true) (hn : listed.setIfInBounds i true = next)
  (ho' : ops[j]? = some o') (hw' : ∀ y, Region.wanted o' y = true) (hn' : listed.setIfInBounds j true = next')
  (h : ∀ K : Act → World → Prop, (∀ a w, wpAnyIn F n P .any ops Q fuel next a w → K a w) → Oper.wpIn F n P o a w K Q)
  (h' : ∀ K : Act → World → Prop, (∀ a w, wpAnyIn F n P .any ops Q fuel next' a w → K a w) → Oper.wpIn F n P o' a w K Q) : wpAnyIn F n P .any ops Q (fuel + 1) listed a w := by
 refine wpAnyIn_ready hr (by simp) (AllReadyIn.cons ho (fun K hK => ?_) (AllReadyIn.cons ho' (fun K hK => ?_) AllReadyIn.nil))
 ·
  rw [hw, if_pos rfl]
  exact h K (fun a w hh => hK a w (by rw [hn]; exact hh))
 ·
  rw [hw', if_pos rfl]
  exact h' K (fun a w hh => hK a w (by rw [hn']; exact hh))
theorem comb {F : Fence} {n : Nat} {P : Program} {ops : Array Oper} {Q : Exit → Act → World → Prop} {o0 o1 o2 o3 o4 o5 o6 : Oper} {id : Nat} {W : World}
  (hm : P.follows .mixedOrders = true) (hsz : ops.size = 7)
  (h0 : ops[0]? = some o0) (h1 : ops[1]? = some o1) (h2 : ops[2]? = some o2) (h3 : ops[3]? = some o3) (h4 : ops[4]? = some o4) (h5 : ops[5]? = some o5) (h6 : ops[6]? = some o6)
  (w0 : ∀ y, Region.wanted o0 y = true) (w1 : ∀ y, Region.wanted o1 y = true) (w2 : ∀ y, Region.wanted o2 y = true) (w3 : ∀ y, Region.wanted o3 y = true) (w4 : ∀ y, Region.wanted o4 y = true) (w5 : ∀ y, Region.wanted o5 y = true) (w6 : ∀ y, Region.wanted o6 y = true)
  (rS0 : Region.ready .any ops #[false, false, false, false, false, false, false] = [0, 1]) (rS1 : Region.ready .any ops #[false, true, false, false, false, false, false] = [0, 2])
  (rS2 : Region.ready .any ops #[false, true, true, false, false, false, false] = [0, 3]) (rS3 : Region.ready .any ops #[false, true, true, true, false, false, false] = [0, 4]) (rS4 : Region.ready .any ops #[false, true, true, true, true, false, false] = [0])
  (rT0 : Region.ready .any ops #[true, false, false, false, false, false, false] = [1]) (rT1 : Region.ready .any ops #[true, true, false, false, false, false, false] = [2]) (rT2 : Region.ready .any ops #[true, true, true, false, false, false, false] = [3])
  (rT3 : Region.ready .any ops #[true, true, true, true, false, false, false] = [4]) (rT4 : Region.ready .any ops #[true, true, true, true, true, false, false] = [5]) (rT5 : Region.ready .any ops #[true, true, true, true, true, true, false] = [6]) (rT6 : Region.ready .any ops #[true, true, true, true, true, true, true] = [])
  (S0 S1 S2 S3 T0 T1 T2 T3 : Act) (S4 T4 : World → Act) (Y : World → Value → Act) (bw : World → World) (st : Value → World → World) (R : World → Prop) (R3 : World → Value → World → Prop)
  (l0 : ∀ K : Act → World → Prop, K T0 W.drew → Oper.wpIn F n P o0 S0 W.drew K Q) (l1 : ∀ K : Act → World → Prop, K T1 W.drew → Oper.wpIn F n P o0 S1 W.drew K Q) (l2 : ∀ K : Act → World → Prop, K T2 W.drew → Oper.wpIn F n P o0 S2 W.drew K Q)
  (l3 : ∀ V, R V → ∀ K : Act → World → Prop, K T3 V → Oper.wpIn F n P o0 S3 V K Q) (l4 : ∀ V, R V → ∀ K : Act → World → Prop, K (T4 V) (bw V) → Oper.wpIn F n P o0 (S4 V) (bw V) K Q)
  (mS : ∀ K : Act → World → Prop, K S1 W.drew → Oper.wpIn F n P o1 S0 W.drew K Q) (mT : ∀ K : Act → World → Prop, K T1 W.drew → Oper.wpIn F n P o1 T0 W.drew K Q)
  (tS : ∀ K : Act → World → Prop, K S2 W.drew → Oper.wpIn F n P o2 S1 W.drew K Q) (tT : ∀ K : Act → World → Prop, K T2 W.drew → Oper.wpIn F n P o2 T1 W.drew K Q)
  (rS : ∀ K : Act → World → Prop, (∀ V, R V → K S3 V) → Oper.wpIn F n P o3 S2 W.drew K Q) (rT : ∀ K : Act → World → Prop, (∀ V, R V → K T3 V) → Oper.wpIn F n P o3 T2 W.drew K Q)
  (bS : ∀ V, R V → ∀ K : Act → World → Prop, K (S4 V) (bw V) → Oper.wpIn F n P o4 S3 V K Q) (bT : ∀ V, R V → ∀ K : Act → World → Prop, K (T4 V) (bw V) → Oper.wpIn F n P o4 T3 V K Q)
  (ap : ∀ V, R V → ∀ K : Act → World → Prop, (∀ v V', R3 V v V' → K (Y V v) V') → Oper.wpIn F n P o5 (T4 V) (bw V) K Q)
  (sr : ∀ V, R V → ∀ v V', R3 V v V' → ∀ K : Act → World → Prop, K (Y V v) (st v V') → Oper.wpIn F n P o6 (Y V v) V' K Q)
  (fin : ∀ V, R V → ∀ v V', R3 V v V' → Q .normal (Y V v) (st v V')) :
  (Code.region id ops true).wpIn F n P Q S0 W := by
 refine wpIn_region_any hm ?_
 rw [hsz]
 show wpAnyIn F n P .any ops Q 7 #[false, false, false, false, false, false, false] S0 W.drew
 have t4 : ∀ V, R V → wpAnyIn F n P .any ops Q 2 #[true, true, true, true, true, false, false] (T4 V) (bw V) := fun V hV =>
  any_one rT4 h5 w5 rfl fun K hK => ap V hV K fun v V' hR => hK _ _ (any_one rT5 h6 w6 rfl fun K hK => sr V hV v V' hR K (hK _ _ (wpAnyIn_done rT6 (fin V hV v V' hR) _)))
 have t3 : ∀ V, R V → wpAnyIn F n P .any ops Q 3 #[true, true, true, true, false, false, false] T3 V := fun V hV =>
  any_one rT3 h4 w4 rfl fun K hK => bT V hV K (hK _ _ (t4 V hV))
 have t2 : wpAnyIn F n P .any ops Q 4 #[true, true, true, false, false, false, false] T2 W.drew := any_one rT2 h3 w3 rfl fun K hK => rT K fun V hV => hK _ _ (t3 V hV)
 have t1 : wpAnyIn F n P .any ops Q 5 #[true, true, false, false, false, false, false] T1 W.drew := any_one rT1 h2 w2 rfl fun K hK => tT K (hK _ _ t2)
 have t0 : wpAnyIn F n P .any ops Q 6 #[true, false, false, false, false, false, false] T0 W.drew := any_one rT0 h1 w1 rfl fun K hK => mT K (hK _ _ t1)
 have s4 : ∀ V, R V → wpAnyIn F n P .any ops Q 3 #[false, true, true, true, true, false, false] (S4 V) (bw V) := fun V hV => any_one rS4 h0 w0 rfl fun K hK => l4 V hV K (hK _ _ (t4 V hV))
 have s3 : ∀ V, R V → wpAnyIn F n P .any ops Q 4 #[false, true, true, true, false, false, false] S3 V := fun V hV =>
  any_two rS3 h0 w0 rfl h4 w4 rfl (fun K hK => l3 V hV K (hK _ _ (t3 V hV))) (fun K hK => bS V hV K (hK _ _ (s4 V hV)))
 have s2 : wpAnyIn F n P .any ops Q 5 #[false, true, true, false, false, false, false] S2 W.drew :=
  any_two rS2 h0 w0 rfl h3 w3 rfl (fun K hK => l2 K (hK _ _ t2)) (fun K hK => rS K fun V hV => hK _ _ (s3 V hV))
 have s1 : wpAnyIn F n P .any ops Q 6 #[false, true, false, false, false, false, false] S1 W.drew :=
  any_two rS1 h0 w0 rfl h2 w2 rfl (fun K hK => l1 K (hK _ _ t1)) (fun K hK => tS K (hK _ _ s2))
 exact any_two rS0 h0 w0 rfl h1 w1 rfl (fun K hK => l0 K (hK _ _ t0)) (fun K hK => mS K (hK _ _ s1))
end Go.Proofs.YtehjelobaflheaaGreatDoor.P
namespace Go.Proofs.YtehjelobaflheaaGreatDoor.P
open Go.RowKit Go.Proofs.YtehjelobaflheaaGreatDoorW.PrintWords Go.Proofs.YtehjelobaflheaaGreatDoorW.PrintLast Go.Proofs.YtehjelobaflheaaGreatDoorW.PrintMore
section
attribute [local go_sem] Oper.semAt_some
abbrev encStep (x : Step) : List Value := [.int .i64 x.f0, .string x.f1, .string x.f2, .string x.f3, .string x.f4, .int .i64 x.f5, .int .i64 x.f6.f0, .int .i64 x.f6.f1, .string x.f6.f2]
theorem encStep_len (x : Step) : (encStep x).length = 9 := rfl
theorem encStep_one (x : Step) (u : Value) (h : u ∈ encStep x) : u.oneCell' = true := by
 simp [encStep] at h
 rcases h with rfl | rfl | rfl | rfl | rfl | rfl | rfl | rfl | rfl <;> rfl
theorem openStep {w : World} {base : Nat} {ok : Nat → Prop} {v : Value} {l : List Step} (h : Kd.R k29 29 w base ok v l) : (∀ k, v.ownBlock = some k → ok k) ∧ w.ownsRow base 29 9 v l.length (cellsOf encStep l) := by
 obtain ⟨hok, inner, hown, hr⟩ := h
 have := reps_cells (enc := encStep) (fun x c hc => k29_openM hc) l inner hr
 rw [← this]
 exact ⟨hok, hown⟩
theorem makeStep {w : World} {base : Nat} {ok : Nat → Prop} {v : Value} {l : List Step} (hok : ∀ k, v.ownBlock = some k → ok k) (h : w.ownsRow base 29 9 v l.length (cellsOf encStep l)) : Kd.R k29 29 w base ok v l :=
 ⟨hok, _, h, reps_of_cells encStep_len (fun x => k29_mkM _ _ _ x) l⟩
theorem infoStep : ∃ i, Tryz.prog.info? 29 = some i ∧ i.zero = some (.agg (encStep z29).toArray) ∧ i.size = 9 ∧ i.bytes = 112 := by
 have h : (Tryz.prog.info? 29).map (fun i => (i.zero, i.size, i.bytes)) = some (some (.agg (encStep z29).toArray), 9, 112) := by kernel_rfl
 cases hi : Tryz.prog.info? 29 with
 | none => rw [hi] at h; cases h
 | some i =>
  rw [hi] at h
  simp at h
  exact ⟨i, rfl, h.1, h.2.1, h.2.2⟩
theorem line_size {s x : ByteArray} (h : x ∈ linesB s) : x.size ≤ s.size := by
 obtain ⟨n, hn⟩ : ∃ n, n = s.size := ⟨_, rfl⟩
 induction n using Nat.strongRecOn generalizing s with
 | _ n ih =>
  by_cases h0 : 0 < s.size
  ·
   obtain ⟨e, hlt⟩ := linesB_step s h0
   rw [e] at h
   rcases List.mem_cons.1 h with rfl | h
   ·
    unfold headB
    split
    ·
     exact Nat.le_refl _
    ·
     rw [ByteArray.size_extract]; omega
   ·
    have := ih _ (by omega) h rfl
    omega
  ·
   have hd : s.data.toList = [] := by
    have hl : s.data.toList.length = s.size := Array.length_toList
    cases hc : s.data.toList with
    | nil => rfl
    | cons a b => rw [hc] at hl; simp at hl; omega
   unfold linesB at h
   rw [hd] at h
   simp [linesL] at h
def trimB (x : ByteArray) : ByteArray := ⟨(Lib.trimSuffix x.data.toList [10]).toArray⟩
def lineStep (x : ByteArray) : Option Step :=
 (lens_words.f (2 * x.size + 4) (trimB x)).bind fun ws => if 5 ≤ ws.length ∧ ws.all (fun y => decide (y.size ≤ 8796093022208)) = true then some (readW ws) else none
def stepsOf : List ByteArray → Option (List Step)
 | [] => some []
 | x :: l => (lineStep x).bind fun p => (stepsOf l).bind fun q => some (p :: q)
theorem stepsOf_append : ∀ (a b : List ByteArray), stepsOf (a ++ b) = (stepsOf a).bind fun p => (stepsOf b).bind fun q => some (p ++ q)
 | [], b => by
  simp only [List.nil_append, stepsOf, Option.bind_some]
  cases stepsOf b <;> rfl
 | x :: a, b => by
  simp only [List.cons_append, stepsOf, stepsOf_append a b]
  cases lineStep x with
  | none => rfl
  | some p =>
   simp only [Option.bind_some]
   cases stepsOf a with
   | none => rfl
   | some q =>
    simp only [Option.bind_some]
    cases stepsOf b <;> rfl
def lineOkB (x : Step) : Bool := decide (-9223372036854775808 ≤ x.f5) && decide (x.f5 ≤ 9223372036854775807) && decide (-9223372036854775808 ≤ x.f6.f1) && decide (x.f6.f1 ≤ 9223372036854775807) && decide (x.f1.size ≤ 1048576) && decide (x.f2.size ≤ 1048576) && decide (x.f3.size ≤ 1048576) && decide (x.f4.size ≤ 1048576) && decide (x.f6.f2.size ≤ 1048576)
theorem lineOk_of {x : Step} (h : lineOkB x = true) : LineOk x := by
 simp only [lineOkB, Bool.and_eq_true, decide_eq_true_eq] at h
 obtain ⟨⟨⟨⟨⟨⟨⟨⟨a, b⟩, c⟩, d⟩, e⟩, f⟩, g⟩, i⟩, j⟩ := h
 exact ⟨a, b, c, d, e, f, g, i, j⟩
def lens_Parse.f (s : ByteArray) : Option (List Step × Bool) :=
 if s.size ≤ 1000000 then (stepsOf (linesB s)).bind fun l => if l.length ≤ 1000 ∧ l.all lineOkB = true then some (if (printS l).toList = s.toList then (l, true) else ([], false)) else none else none
theorem stepR_grown {e base : Nat} {W W' : World} {v : Value} {l : List Step} {row : Option Nat} (h : Kd.R k29 e W base (fun _ => True) v l) (hg : W.grownBy W' row) (hne : v.ownBlock = none ∨ v.ownBlock ≠ row) : Kd.R k29 e W' base (fun _ => True) v l :=
 Kd.R_mono (Kd.R_step (Kd.R_tight rfl h) (fun k hk hl => by
  refine hg.block k hl ?_
  rcases hne with h | h
  ·
   rw [h] at hk; cases hk
  ·
   rw [hk]; exact h)) (fun _ _ => trivial)
theorem stepR_turn {e base : Nat} {W W' : World} {v : Value} {l : List Step} {row : Option Nat} (h : Kd.R k29 e W base (fun _ => True) v l) (hg : W.grownBy W' row) (hr : ∀ r, row = some r → ∃ o : Obj, W.heap[r]? = some o ∧ o.isCells = false) : Kd.R k29 e W' base (fun _ => True) v l :=
 Kd.R_mono (Kd.R_step (Kd.R_tight rfl h) (fun k hk hl => by
  obtain ⟨cs, hc⟩ := Kd.R_typed h k hk.symm
  exact grownBy_keeps_cells hg hr hc rfl)) (fun _ _ => trivial)
theorem append_in {F : Fence} {n : Nat} {P : Program} {o : Oper} {a : Act} {Q : Exit → Act → World → Prop} {K : Act → World → Prop} {w w' : World} (s x : Operand) (t : TypeId) (hop : o.op = Op.call { callee := Callee.builtin Builtin.append, args := #[s, x], argTypes := #[t, t] })
  {v u v' : Value} (hs : a.eval s = v) (hx : a.eval x = u) (hrun : (Builtin.append_ #[t, t] o.type #[v, u]).run P w = .ok v' w') (hK : K (a.put o.dst v') w') : Oper.wpIn F n P o a w K Q := by
 refine ⟨?_, ?_⟩
 ·
  simp [Oper.about, hop, resolve, Target.leads, Sem.run_pure]
 ·
  rw [Oper.semAt_plain F _ _ (by rw [hop]; intro c hc; cases hc)]
  simp [execOp, hop, resolve, invoke, builtin, hs, hx, hrun, Result.andThen]
  exact hK
def pact (a0 x : ByteArray) (b : Nat) (u9 u10 u11 u12 u13 u14 : Value) : Act := { tmps := #[.string a0, undef, .slice none 0 0, .bool false, .pointer (some ⟨b, 0, none⟩), .string x, .string a0, .func (.func 76) #[] #[.pointer (some ⟨b + 1, 0, none⟩)], .string x, u9, u10, u11, u12, u13, u14, undef, undef, undef, undef, undef], defers := [] }
theorem lens_Parse.calls (a0 : ByteArray) (r1 : List Step) (r2 : Bool) (w : World) (hG : Good w) (h : lens_Parse.f a0 = some (r1, r2)) :
  Calls Tryz.prog 13 #[.string a0] w fun e w' => ∃ v0_ : Value, e = .returned (.tuple #[v0_, .bool r2]) ∧ Kd.R k29 29 w' w.heap.size (fun _ => True) v0_ r1 ∧ Below w.heap.size w w' := by
 unfold lens_Parse.f at h
 by_cases hsz : a0.size ≤ 1000000
 case neg => rw [if_neg hsz] at h; cases h
 rw [if_pos hsz] at h
 obtain ⟨steps, hst, h⟩ := Option.bind_eq_some_iff.mp h
 by_cases hok : steps.length ≤ 1000 ∧ steps.all lineOkB = true
 case neg => rw [if_neg hok] at h; cases h
 rw [if_pos hok] at h
 have H := JN (Option.some.inj h)
 have HST := JN hst
 have HOK := JN hok
 have HG := JN hG
 clear h hst hok hG
 have hu1 := Tryz.underlying29
 have hu2 := Tryz.underlying22
 refine (callsIn_wide (n := 3)).1 ?_
 refine callsIn_of_wp_marks Tryz.func13 rfl trivial ?_ rfl
 simp only [Tryz.ntmps13, List.size_toArray, List.length_cons, List.length_nil, Nat.reduceAdd, Nat.reduceSub, Array.replicate_succ, Array.replicate_zero, List.push_toArray, List.append_toArray, List.nil_append, List.cons_append]
 gi_wp2_with (refine ⟨trivial, ?_⟩; gi_at_call 39; refine (callsIn_wide.2 (lines_makes a0 _)).mono ?_; rintro e w3 ⟨rfl, rfl⟩)
 have c9 := cell_new_l w (.slice none 0 0) 22
 have c10 := heap_alloc_new (w.alloc (.cells #[.slice none 0 0] 22)) (.cells #[.string a0] 9 (0, 0))
 rw [World.size_alloc] at c10
 refine range_given (m := 3) (by decide) (gf := 76) (lb := #[.pointer (some ⟨w.heap.size + 1, 0, none⟩)]) rfl (enters_of Tryz.func76 (Kg) rfl)
  (lines_gives 2 (by decide) (w.heap.size + 1) a0 (by omega) _ (by simp) c10) (Below.refl _ _)
  (fun h k => k.trans h) (fun k W o o' hk h ho => World.putObj_heap_other (by simp at hk; omega)) (fun _ => rfl) (fun W1 W2 k o hg hk ho => (hg.block k (Array.getElem?_eq_some_iff.1 ho).1 (by simp at hk; intro e; injection e; omega)).trans ho)
  (fun pre W => ∃ v l, stepsOf pre = some l ∧ W.cell? ⟨w.heap.size, 0, none⟩ = some v ∧ W.frozen? ⟨w.heap.size, 0, none⟩ = false ∧ Kd.R k29 29 W (w.heap.size + 2) (fun _ => True) v l ∧ v.ownBlock ≠ some w.heap.size ∧ v.ownBlock ≠ some (w.heap.size + 1) ∧ Below w.heap.size w W ∧ w.heap.size + 2 ≤ W.heap.size)
  ?hI ?hIW ?h0
  (fun pre x act W => act = { tmps := #[.string a0, undef, .slice none 0 0, .bool false, .pointer (some ⟨w.heap.size, 0, none⟩), .string x, .string a0, .func (.func 76) #[] #[.pointer (some ⟨w.heap.size + 1, 0, none⟩)], .string x, undef, undef, undef, undef, undef, undef, undef, undef, undef, undef, undef], defers := [] } ∧ ∃ v l, stepsOf pre = some l ∧ W.cell? ⟨w.heap.size, 0, none⟩ = some v ∧ W.frozen? ⟨w.heap.size, 0, none⟩ = false ∧ Kd.R k29 29 W (w.heap.size + 2) (fun _ => True) v l ∧ v.ownBlock ≠ some w.heap.size ∧ v.ownBlock ≠ some (w.heap.size + 1) ∧ Below w.heap.size w W ∧ w.heap.size + 2 ≤ W.heap.size)
  ?hIA ?assign ?body ?done
 case hI =>
  rintro s W W' rw_ ⟨v, l, h1, h2, h3, h4, h5, h5', h6, h7⟩ hg hr
  have hr' : ∀ r, rw_ = some r → ∃ o : Obj, W.heap[r]? = some o ∧ o.isCells = false := fun r e => (hr r e).2
  exact ⟨v, l, h1, cell_kept h2 hg hr', (frozen_kept h2 hg hr').trans h3, stepR_turn h4 hg hr', h5, h5', h6.grown hg h6.size (fun k e => by have := (hr k e).1; simp at this; omega), Nat.le_trans h7 hg.size⟩
 case hIW =>
  rintro pre W W' ⟨v, l, h1, h2, h3, h4, h5, h5', h6, h7⟩ hg
  refine ⟨v, l, h1, (World.cell?_of_block (hg.block w.heap.size (by omega) (by simp))).trans h2, (World.frozen?_of_block (hg.block w.heap.size (by omega) (by simp))).trans h3, stepR_grown h4 hg (.inr h5'), h5, h5', h6.grown hg h6.size (fun k e => by cases e; omega), Nat.le_trans h7 hg.size⟩
 case h0 => exact ⟨_, [], rfl, cell_alloc_l _ c9.1, frozen_alloc_l _ c9.1 c9.2, Kd.R_nil _ _ _ _ _, by simp [Value.ownBlock], by simp [Value.ownBlock], ((Below.refl _ w).alloc (Nat.le_refl _) _).alloc (by simp) _, by simp⟩
 case hIA =>
  rintro pre x act s W W' rw_ ⟨ha, v, l, h1, h2, h3, h4, h5, h5', h6, h7⟩ hg hr
  have hr' : ∀ r, rw_ = some r → ∃ o : Obj, W.heap[r]? = some o ∧ o.isCells = false := fun r e => (hr r e).2
  exact ⟨ha, v, l, h1, cell_kept h2 hg hr', (frozen_kept h2 hg hr').trans h3, stepR_turn h4 hg hr', h5, h5', h6.grown hg h6.size (fun k e => by have := (hr k e).1; simp at this; omega), Nat.le_trans h7 hg.size⟩
 case assign =>
  rintro l pre x W K hI hpre hK
  have HK := JN hK
  have HI := JN hI
  clear hK hI
  have e : ((#[8] : Array Tmp).zip (lineArgs x)) = #[(8, Value.string x)] := by simp [lineArgs]
  rw [e]
  simp only [List.foldl_toArray', List.size_toArray, List.foldl_cons, List.foldl_nil, List.setIfInBounds_toArray, List.set_cons_succ, List.set_cons_zero]
  gi_wp2
  exact HK.out _ _ ⟨rfl, HI.out⟩ (KeepsOthers.refl _) rfl
 case body =>
  rintro l pre x act W ⟨rfl, v, q, h1, h2, h3, h4, h5, h5', h6, h7⟩ hpre
  obtain ⟨Av, cv, ev, hcv, hrv⟩ := Kd.R_reads h4
  subst ev
  obtain ⟨p, hp, hq⟩ : ∃ p, lineStep x = some p ∧ q.length + 1 ≤ 1000 := by
   obtain ⟨t, ht⟩ := hpre
   have h := HST.out
   rw [← ht, List.append_assoc, stepsOf_append, h1] at h
   simp only [Option.bind_some, List.singleton_append, stepsOf] at h
   obtain ⟨u, hu, h⟩ := Option.bind_eq_some_iff.mp h
   obtain ⟨p, hp, hu⟩ := Option.bind_eq_some_iff.mp hu
   obtain ⟨z, hz, hu⟩ := Option.bind_eq_some_iff.mp hu
   refine ⟨p, hp, ?_⟩
   have e1 := Option.some.inj h
   have e2 := Option.some.inj hu
   have := HOK.out.1
   rw [← e1, ← e2] at this
   simp at this
   omega
  have hall : stepsOf (pre ++ [x]) = some (q ++ [p]) := by
   rw [stepsOf_append, h1]
   simp only [Option.bind_some, stepsOf, hp]
  unfold lineStep at hp
  obtain ⟨ws, hws, hp⟩ := Option.bind_eq_some_iff.mp hp
  by_cases hwc : 5 ≤ ws.length ∧ ws.all (fun y => decide (y.size ≤ 8796093022208)) = true
  case neg => rw [if_neg hwc] at hp; cases hp
  rw [if_pos hwc] at hp
  have hpe := Option.some.inj hp
  have HALL := JN hall
  have HGW : Jv (Good W) := ⟨HG.out.below h6⟩
  have HRD : Jv (∀ V, Good V → Calls Tryz.prog 40 #[.string (trimB x)] V fun e w' => e = .returned (stepAgg p) ∧ Below V.heap.size V w') := ⟨fun V g => by
   rw [← hpe]
   exact read_calls _ (trimB x) ws V g hws hwc.1 (fun y hy => by simpa using List.all_eq_true.1 hwc.2 y hy)⟩
  have hxs : x.size ≤ 1000000 := by
   obtain ⟨t, ht⟩ := hpre
   exact Nat.le_trans (line_size (by rw [← ht]; simp)) hsz
  have HTR : Jv (∀ V, Calls Tryz.prog 41 #[.string x, .string ⟨#[10]⟩] V fun e w' => e = .returned (.string (trimB x)) ∧ w' = V) := ⟨fun V => Tryz.strings_TrimSuffix x ⟨#[10]⟩ V (by omega)⟩
  have HB6 := JN h6
  have H4 := JN h4
  have hmx : Tryz.prog.follows .mixedOrders = true := by kernel_rfl
  obtain ⟨i0, hi0, hz0, hz1, hz2⟩ := infoStep
  have HI0 := JN (And.intro hi0 (And.intro hz0 (And.intro hz1 hz2)))
  obtain ⟨o0, o1, o2, o3, o4, o5, o6⟩ := p
  clear h1 h4 h6 hall hpre hws hwc hp hpe hrv hi0 hz0 hz1 hz2
  gi_wp2
  refine comb hmx rfl rfl rfl rfl rfl rfl rfl rfl (fun _ => rfl) (fun _ => rfl) (fun _ => rfl) (fun _ => rfl) (fun _ => rfl) (fun _ => rfl) (fun _ => rfl) (Kg) (Kg) (Kg) (Kg) (Kg) (Kg) (Kg) (Kg) (Kg) (Kg) (Kg) (Kg)
   (pact a0 x w.heap.size undef undef undef undef undef undef)
   (pact a0 x w.heap.size undef (.string x) undef undef undef undef)
   (pact a0 x w.heap.size undef (.string x) (.string (trimB x)) undef undef undef)
   (pact a0 x w.heap.size undef (.string x) (.string (trimB x)) (stepAgg ⟨o0, o1, o2, o3, o4, o5, o6⟩) undef undef)
   (pact a0 x w.heap.size (.slice Av q.length cv) undef undef undef undef undef)
   (pact a0 x w.heap.size (.slice Av q.length cv) (.string x) undef undef undef undef)
   (pact a0 x w.heap.size (.slice Av q.length cv) (.string x) (.string (trimB x)) undef undef undef)
   (pact a0 x w.heap.size (.slice Av q.length cv) (.string x) (.string (trimB x)) (stepAgg ⟨o0, o1, o2, o3, o4, o5, o6⟩) undef undef)
   (fun V => (pact a0 x w.heap.size undef (.string x) (.string (trimB x)) (stepAgg ⟨o0, o1, o2, o3, o4, o5, o6⟩) (.slice (some ⟨V.heap.size, 0, none⟩) 1 1) undef))
   (fun V => (pact a0 x w.heap.size (.slice Av q.length cv) (.string x) (.string (trimB x)) (stepAgg ⟨o0, o1, o2, o3, o4, o5, o6⟩) (.slice (some ⟨V.heap.size, 0, none⟩) 1 1) undef))
   (fun V v => (pact a0 x w.heap.size (.slice Av q.length cv) (.string x) (.string (trimB x)) (stepAgg ⟨o0, o1, o2, o3, o4, o5, o6⟩) (.slice (some ⟨V.heap.size, 0, none⟩) 1 1) v))
   (fun V => V.alloc (.cells #[.int .i64 o0, .string o1, .string o2, .string o3, .string o4, .int .i64 o5, .int .i64 o6.f0, .int .i64 o6.f1, .string o6.f2] 29)) (fun v V' => V'.setCell ⟨w.heap.size, 0, none⟩ v)
   (fun V => Below W.heap.size W.drew V)
   (fun V v V' => V'.ownsRow (w.heap.size + 2) 29 9 v (q.length + 1) (cellsOf encStep (q ++ [⟨o0, o1, o2, o3, o4, o5, o6⟩])) ∧ (V.alloc (.cells #[.int .i64 o0, .string o1, .string o2, .string o3, .string o4, .int .i64 o5, .int .i64 o6.f0, .int .i64 o6.f1, .string o6.f2] 29)).grownBy V' (Value.ownBlock (.slice Av q.length cv)))
   ?l0 ?l1 ?l2 ?l3 ?l4 ?mS ?mT ?tS ?tT ?rS ?rT ?bS ?bT ?ap ?sr ?fin
  case l0 => intro K hK; unfold pact; go_simp; exact hK
  case l1 => intro K hK; unfold pact; go_simp; exact hK
  case l2 => intro K hK; unfold pact; go_simp; exact hK
  case l3 =>
   intro V hV K hK
   have y2 : V.cell? ⟨w.heap.size, 0, none⟩ = some (.slice Av q.length cv) := (hV.cell (p := ⟨w.heap.size, 0, none⟩) (show w.heap.size < W.heap.size by omega)).trans h2
   unfold pact; go_simp; exact hK
  case l4 =>
   intro V hV K hK
   have y2 : (V.alloc (.cells #[.int .i64 o0, .string o1, .string o2, .string o3, .string o4, .int .i64 o5, .int .i64 o6.f0, .int .i64 o6.f1, .string o6.f2] 29)).cell? ⟨w.heap.size, 0, none⟩ = some (.slice Av q.length cv) := cell_alloc_l _ ((hV.cell (p := ⟨w.heap.size, 0, none⟩) (show w.heap.size < W.heap.size by omega)).trans h2)
   unfold pact; go_simp; exact hK
  case mS => intro K hK; unfold pact; go_simp; exact hK
  case mT => intro K hK; unfold pact; go_simp; exact hK
  case tS => intro K hK; unfold pact; go_simp; refine ⟨trivial, ?_⟩; refine (CallsIn.inRound l (callsIn_wide.2 (HTR.out _))).mono ?_; rintro e w' ⟨rfl, rfl⟩; exact hK
  case tT => intro K hK; unfold pact; go_simp; refine ⟨trivial, ?_⟩; refine (CallsIn.inRound l (callsIn_wide.2 (HTR.out _))).mono ?_; rintro e w' ⟨rfl, rfl⟩; exact hK
  case rS => intro K hK; unfold pact; go_simp; refine ⟨trivial, ?_⟩; refine (CallsIn.inRound l (callsIn_wide.2 (HRD.out W.drew (HGW.out.below (below_drew (Below.refl _ W)))))).mono ?_; rintro e w' ⟨rfl, hb⟩; exact hK _ hb
  case rT => intro K hK; unfold pact; go_simp; refine ⟨trivial, ?_⟩; refine (CallsIn.inRound l (callsIn_wide.2 (HRD.out W.drew (HGW.out.below (below_drew (Below.refl _ W)))))).mono ?_; rintro e w' ⟨rfl, hb⟩; exact hK _ hb
  case bS => intro V hV K hK; unfold pact; go_simp; exact hK
  case bT => intro V hV K hK; unfold pact; go_simp; exact hK
  case ap =>
   intro V hV K hK
   have hs2 : W.heap.size ≤ V.heap.size := hV.size
   have H42 := Kd.R_below (Kd.R_drew H4.out) hV
   obtain ⟨hi0, hz0, hz1, hz2⟩ := HI0.out
   obtain ⟨v', w3, hrun, r1, r2, r3⟩ := run_append_own (P := Tryz.prog) (V.alloc (.cells #[.int .i64 o0, .string o1, .string o2, .string o3, .string o4, .int .i64 o5, .int .i64 o6.f0, .int .i64 o6.f1, .string o6.f2] 29)) (w.heap.size + 2) 22 22 29 i0 _ 9 112 hu2 hi0 hz0 hz1 hz2 rfl (by decide) (.slice Av q.length cv) q.length (cellsOf encStep q) ((openStep H42).2.alloc _) ⟨V.heap.size, 0, none⟩ 1 1 (encStep ⟨o0, o1, o2, o3, o4, o5, o6⟩) rfl (fun j u hu => by rw [Addr.add_lit, cell_of_row _ V.heap.size _ _ 29 (0, 0) (heap_alloc_new V _), Nat.zero_add]; simpa using hu) (encStep_one _) (by unfold maxLen; omega) (by omega) (Jc)
   refine append_in _ _ _ rfl rfl rfl hrun (hK v' w3 ⟨?_, r2⟩)
   rw [cellsOf_append]
   simpa [cellsOf] using r1
  case sr =>
   rintro V hV v V' ⟨r1, r2⟩ K hK
   have hs2 : W.heap.size ≤ V.heap.size := hV.size
   obtain ⟨g3, cap3, cur3, ev3, hbg3, hg3, hnc3, _⟩ := own_open r1 (by omega)
   subst ev3
   have hblk : V'.heap[w.heap.size]? = (V.alloc (.cells #[.int .i64 o0, .string o1, .string o2, .string o3, .string o4, .int .i64 o5, .int .i64 o6.f0, .int .i64 o6.f1, .string o6.f2] 29)).heap[w.heap.size]? := r2.block w.heap.size (Jc) (fun e => h5 e.symm)
   have y2 : V.cell? ⟨w.heap.size, 0, none⟩ = some (.slice Av q.length cv) := (hV.cell (p := ⟨w.heap.size, 0, none⟩) (show w.heap.size < W.heap.size by omega)).trans h2
   have yf : V.frozen? ⟨w.heap.size, 0, none⟩ = false := (hV.frozen (p := ⟨w.heap.size, 0, none⟩) (show w.heap.size < W.heap.size by omega)).trans h3
   have y3 : V'.cell? ⟨w.heap.size, 0, none⟩ = some (.slice Av q.length cv) := (World.cell?_of_block hblk).trans (cell_alloc_l _ y2)
   have yf3 : V'.frozen? ⟨w.heap.size, 0, none⟩ = false := (World.frozen?_of_block hblk).trans (frozen_alloc_l _ y2 yf)
   clear r1 r2 hblk y2 yf
   unfold pact; go_simp; exact hK
  case fin =>
   rintro V hV v V' ⟨r1, r2⟩
   have hs2 : W.heap.size ≤ V.heap.size := hV.size
   have hblk : V'.heap[w.heap.size]? = (V.alloc (.cells #[.int .i64 o0, .string o1, .string o2, .string o3, .string o4, .int .i64 o5, .int .i64 o6.f0, .int .i64 o6.f1, .string o6.f2] 29)).heap[w.heap.size]? := r2.block w.heap.size (Jc) (fun e => h5 e.symm)
   have y2 : V.cell? ⟨w.heap.size, 0, none⟩ = some (.slice Av q.length cv) := (hV.cell (p := ⟨w.heap.size, 0, none⟩) (show w.heap.size < W.heap.size by omega)).trans h2
   have yf : V.frozen? ⟨w.heap.size, 0, none⟩ = false := (hV.frozen (p := ⟨w.heap.size, 0, none⟩) (show w.heap.size < W.heap.size by omega)).trans h3
   have y3 : V'.cell? ⟨w.heap.size, 0, none⟩ = some (.slice Av q.length cv) := (World.cell?_of_block hblk).trans (cell_alloc_l _ y2)
   have yf3 : V'.frozen? ⟨w.heap.size, 0, none⟩ = false := (World.frozen?_of_block hblk).trans (frozen_alloc_l _ y2 yf)
   have D0 : Below W.heap.size W V := (below_drew (Below.refl _ W)).trans hV
   have H42 := Kd.R_alloc (Kd.R_below (Kd.R_drew H4.out) hV) (.cells #[.int .i64 o0, .string o1, .string o2, .string o3, .string o4, .int .i64 o5, .int .i64 o6.f0, .int .i64 o6.f1, .string o6.f2] 29 (0, 0))
   have hown : ∀ k, v.ownBlock = some k → w.heap.size + 2 ≤ k := fun k e => (r1.lt k e).1
   have hbs : V'.heap[w.heap.size + 1]? = W.heap[w.heap.size + 1]? := (r2.block (w.heap.size + 1) (Jc) (fun e => h5' e.symm)).trans ((Below.heap_alloc V _ _ (by omega)).trans (D0.block _ (by omega)))
   have k1 : KeepsOthers W V := ⟨D0.size, fun k o hk ho => (D0.block k (Array.getElem?_eq_some_iff.1 hk).1).trans hk⟩
   have k3 := KeepsOthers.of_grownBy r2 (fun j o e ho => by
    obtain ⟨cs, hc⟩ := Kd.R_typed H42 j e
    rw [hc] at ho; cases ho; rfl)
   have hb2 : Below w.heap.size w V' := (bl_alloc (HB6.out.trans (D0.mono (by omega))) (by omega) _).grown r2 (Jc) (fun k e => by have := ((openStep H42).2.lt k e).1; omega)
   refine ⟨((k1.trans (KeepsOthers.alloc V _)).trans k3).trans (KeepsOthers.setCell V' _ _), (Below.heap_setCell V' ⟨w.heap.size, 0, none⟩ _ _ (by simp)).trans hbs,
    ⟨v, _, HALL.out, World.cell?_setCell_same' _ _ _ (by rw [y3]; rfl), by rw [World.frozen?_setCell]; exact yf3, makeStep (fun _ _ => trivial) ?_, fun e => by have := hown _ e; omega, fun e => by have := hown _ e; omega, bl_set hb2 (Nat.le_refl _) _, ?_⟩⟩
   ·
    rw [List.length_append]
    exact r1.kept (grownBy_setCell' V' w.heap.size v) (.inr fun e => by have := hown _ e; omega)
   ·
    have := (KeepsOthers.setCell V' ⟨w.heap.size, 0, none⟩ v).size
    have := r2.size
    simp at this
    omega
 case done =>
  rintro D W hD ⟨v, q, h1, h2, h3, h4, h5, h5', h6, h7⟩ hK
  obtain ⟨Av, cv, ev, hcv, hrv⟩ := Kd.R_reads h4
  subst ev
  obtain rfl : q = steps := by have h := HST.out; rw [h1] at h; exact Option.some.inj h
  have HPR : Jv (Calls Tryz.prog 12 #[.slice Av q.length cv] W fun e w' => e = .returned (.string (printS q)) ∧ Below W.heap.size W w') := ⟨print_calls Av cv q W (HG.out.below h6) hrv hcv HOK.out.1 (fun y hy => lineOk_of (List.all_eq_true.1 HOK.out.2 y hy))⟩
  obtain ⟨ps, hps⟩ : ∃ ps, ps = printS q := ⟨_, rfl⟩
  rw [← hps] at HPR
  have HH := H.out
  rw [← hps] at HH
  have H4 := JN h4
  have H6 := JN h6
  have hb4 : w.heap.size < W.heap.size := by omega
  have hDw : w.heap.size + 2 ≤ D := by simpa using hD
  clear h1 h4 h6 hrv hps
  by_cases hq : ps.toList = a0.toList
  ·
   rw [if_pos hq] at HH
   have HE := JN HH
   have q1 : (ps.toList == a0.toList) = true := by simp [hq]
   have q2 : (ps.toList != a0.toList) = false := by simp [hq]
   clear hq HH
   gi_wp2_with (refine ⟨trivial, ?_⟩; gi_at_call 12; refine (callsIn_wide.2 HPR.out).mono ?_; rintro e w2 ⟨rfl, hb⟩; have y2 : w2.cell? ⟨w.heap.size, 0, none⟩ = some (.slice Av q.length cv) := (hb.cell (p := ⟨w.heap.size, 0, none⟩) hb4).trans h2; have HB2 := JN hb; clear hb)
   have hK2 : w2.heap[D]? = some (.deferred (some [])) := (HB2.out.block D (Array.getElem?_eq_some_iff.1 hK).1).trans hK
   obtain ⟨rfl, rfl⟩ := Prod.mk.inj HE.out
   refine ⟨by simp, .inl ⟨_, _, rfl, run_takeDeferred hK2, ?_⟩⟩
   refine ⟨_, results_tmp2 rfl _ _ _, ⟨_, rfl, Kd.R_lower (stepR_turn (Kd.R_below H4.out HB2.out) (grownBy_putObj' w2 D _) (fun r e => by cases e; exact ⟨_, hK2, rfl⟩)) (by omega), (H6.out.trans (HB2.out.mono (by omega))).trans (belowK_b (w := w) (Nat.le_refl _) w2 D _ _ (by omega) hK2 rfl rfl)⟩⟩
  ·
   rw [if_neg hq] at HH
   have HE := JN HH
   have q1 : (ps.toList == a0.toList) = false := by simp [hq]
   have q2 : (ps.toList != a0.toList) = true := by simp [hq]
   clear hq HH
   gi_wp2_with (refine ⟨trivial, ?_⟩; gi_at_call 12; refine (callsIn_wide.2 HPR.out).mono ?_; rintro e w2 ⟨rfl, hb⟩; have y2 : w2.cell? ⟨w.heap.size, 0, none⟩ = some (.slice Av q.length cv) := (hb.cell (p := ⟨w.heap.size, 0, none⟩) hb4).trans h2; have HB2 := JN hb; clear hb)
   have hK2 : w2.heap[D]? = some (.deferred (some [])) := (HB2.out.block D (Array.getElem?_eq_some_iff.1 hK).1).trans hK
   obtain ⟨rfl, rfl⟩ := Prod.mk.inj HE.out
   refine ⟨by simp, .inl ⟨_, _, rfl, run_takeDeferred hK2, ?_⟩⟩
   refine ⟨_, results_tmp2 rfl _ _ _, ⟨_, rfl, Kd.R_nil _ _ _ _ _, (H6.out.trans (HB2.out.mono (by omega))).trans (belowK_b (w := w) (Nat.le_refl _) w2 D _ _ (by omega) hK2 rfl rfl)⟩⟩
end
section
attribute [local go_sem] max2_int min2_int max_two min_two pw_string_gtr
def lens_Lossless.l0 : Nat → List (List (S53)) → List (S29) → Int → Int → Option (Bool × Int × (List (S27)))
 | 0, _, _, _, _ => none
 | k + 1, x7, x19, x20, x21 => if x21 < x20 then (if 0 ≤ x21 then (if x21 < (x19.length : Int) then (if x21 < (x7.length : Int) then ((lens_changed.f ((Jy x19 x21).f0) ((Jy x19 x21).f1) ((Jy x19 x21).f2) ((Jy x19 x21).f3) ((Jy x19 x21).f4) ((Jy x19 x21).f5) ((Jy x19 x21).f6.f0) ((Jy x19 x21).f6.f1) ((Jy x19 x21).f6.f2) (rd_L8 x7 x21)).bind fun bt557 => (if bt557.2 = true then (some (false, x21, bt557.1)) else (lens_Lossless.l0 k x7 x19 x20 (wrap64 (x21 + 1))))) else (none)) else (none)) else (none)) else (some (true, 0, ([] : List (S27))))
def lens_Lossless.f (k : Nat) (l0 : List (S29)) (l1 : List (S53)) : Option (Bool × Int × (List (S27))) := (lens_shapes.f k l0 l1).bind fun bt550 => (lens_Lossless.l0 k bt550.1 l0 (l0.length : Int) 0)
def lens_Lossless.T5 : Bool × List (List Nat × List Nat) := (true, [([], []), ([], []), ([], []), ([1, 2], [1, 2]), ([3], [3]), ([0, 4], [0, 4]), ([5], [5]), ([6], [6]), ([6], [6]), ([7, 5, 0, 1, 2, 3, 4, 5, 6, 7], [7]), ([8, 9, 0, 1, 2, 3, 4, 5, 6, 7, 8, 9], [8])])
def lens_Lossless.B5 : List Nat := [0, 0, 0, 6, 14, 31, 63, 127, 127, 255, 1023]
theorem lens_Lossless.tab5 : rtab .any (opsOf Tryz.f27 5) = lens_Lossless.T5 := by kernel_rfl
theorem lens_Lossless.bits5 : waitsOk lens_Lossless.T5.2 lens_Lossless.B5 = true := by kernel_rfl
theorem lens_Lossless.calls (k : Nat) (A0 : Option Addr) (c0 : Nat) (l0 : List (S29)) (A1 : Option Addr) (c1 : Nat) (l1 : List (S53)) (r1 : Bool) (r2 : Int) (r3 : List (S27)) (w : World) (hr0 : Kd.C k29 w A0 l0.length l0) (hc0 : l0.length ≤ c0) (hr1 : Kd.C k53 w A1 l1.length l1) (hc1 : l1.length ≤ c1) (h : lens_Lossless.f k l0 l1 = some (r1, r2, r3)) :
  Calls Tryz.prog 27 #[.slice A0 l0.length c0, .slice A1 l1.length c1] w fun e w' => ∃ v2_ : Value, e = .returned (.tuple #[.bool r1, .int .i64 r2, v2_]) ∧ Kd.R k27 27 w' w.heap.size (fun _ => True) v2_ r3 ∧ Below w.heap.size w w' := by
 have hu29 := Tryz.underlying29
 have HR0 := JN hr0
 have HC0 := JN hc0
 clear hr0 hc0
 have HR1 := JN hr1
 have HC1 := JN hc1
 clear hr1 hc1
 have HB := JN (Below.refl w.heap.size w)
 have H : ((lens_shapes.f k l0 l1).bind fun bt550 => (lens_Lossless.l0 k bt550.1 l0 (l0.length : Int) 0)) = some (r1, r2, r3) := h
 clear h
 replace H := Option.bind_eq_some_iff.mp H
 obtain ⟨⟨t550, t553⟩, A30, H⟩ := H
 replace H : (lens_Lossless.l0 k t550 l0 (l0.length : Int) 0) = some (r1, r2, r3) := H
 have A3 := JN A30
 clear A30
 have H' := JN H
 clear H
 go_enter Tryz.func27, Tryz.ntmps27
 go_wp2_with (first | ((with_reducible refine JM (f := 56) rfl ?_); refine goesL_ (some 16) rfl rfl Tryz.func56 (Kg) rfl #[.slice A0 l0.length c0, .slice A1 l1.length c1] rfl (Ke) ?_; (with_reducible refine (lens_shapes.calls k _ _ l0 _ _ l1 t550 t553 _ ?side1 ?side2 ?side3 ?side4 A3.out).mono ?_); (case side1 => repeat (first | exact HR0.out | (with_reducible refine Kd.C_alloc ?_ _) | (with_reducible refine Kd.C_drewN ?_ _) | (with_reducible refine Kd.C_drew ?_))); (case side2 => exact HC0.out); (case side3 => repeat (first | exact HR1.out | (with_reducible refine Kd.C_alloc ?_ _) | (with_reducible refine Kd.C_drewN ?_ _) | (with_reducible refine Kd.C_drew ?_))); (case side4 => exact HC1.out); rintro e w4 ⟨v551, rfl, ho0, hb⟩; refine ⟨_, rfl, ?_⟩; have n0_ := JN (Kd.N_lower (Kd.N_mono (ok' := fun k_ => True) ho0 (fun k_ hk_ => trivial)) (below_size (Ka))); have n1_ := JN (JB (Ka) hb); clear HB; have HO552 := n0_; have HB := n1_; clear n0_ n1_; (try clear hb); (try clear hb2); (try clear hk); (try clear hi); (try clear ho0)))
 go_loopg [21] k (fun kq v21 w' => ∃ (x21_1 : Int), v21 = .int .i64 x21_1 ∧ Jv (lens_Lossless.l0 kq t550 l0 (l0.length : Int) x21_1 = some (r1, r2, r3)) ∧ Jv (kq ≤ k) ∧ Jv (Kd.N (Kd.slice 53 k53) 35 w' w.heap.size (fun _ => True) v551 t550) ∧ Jv (Below w.heap.size w w'))
 case atStart => exact ⟨(0), (Km), H', ⟨Nat.le_refl _⟩, ⟨by (with_reducible repeat (first | apply Kd.N_alloc | apply Kd.N_drewN | apply Kd.N_drew)); exact HO552.out⟩, ⟨Ka⟩⟩
 case round =>
  clear H'
  try clear c1
  try clear c2
  try clear p2
  obtain ⟨x21_1, rfl, HA, HK1, HO_7, HB⟩ := hrel
  cases gk with
  | zero => exact absurd HA.out (by simp [lens_Lossless.l0])
  | succ k1 =>
   have H := HA.out
   clear HA
   simp only [lens_Lossless.l0] at H
   by_cases c5 : x21_1 < (l0.length : Int)
   ·
    rw [if_pos c5] at H
    have c5b0 : decide (x21_1 < (l0.length : Int)) = true := decide_eq_true c5
    clear c5
    by_cases c6 : 0 ≤ x21_1
    ·
     rw [if_pos c6] at H
     have c6b0 : decide (0 ≤ x21_1) = true := decide_eq_true c6
     clear c6
     by_cases c7 : x21_1 < (l0.length : Int)
     ·
      rw [if_pos c7] at H
      have c7b0 : decide (x21_1 < (l0.length : Int)) = true := decide_eq_true c7
      clear c7
      by_cases c8 : x21_1 < (t550.length : Int)
      ·
       rw [if_pos c8] at H
       have c8b0 : decide (x21_1 < (t550.length : Int)) = true := decide_eq_true c8
       clear c8
       replace H := Option.bind_eq_some_iff.mp H
       obtain ⟨⟨t557, t560⟩, A90, H⟩ := H
       replace H : (if t560 = true then (some (false, x21_1, t557)) else (lens_Lossless.l0 k1 t550 l0 (l0.length : Int) (wrap64 (x21_1 + 1)))) = some (r1, r2, r3) := H
       have A9 := JN A90
       clear A90
       by_cases c10 : t560 = true
       ·
        subst c10
        have H1 : (some (false, x21_1, t557)) = some (r1, r2, r3) := by rw [if_pos rfl] at H; exact H
        clear H
        have H := H1
        clear H1
        simp only [Option.some.injEq, Prod.mk.injEq] at H
        obtain ⟨rfl, rfl, rfl⟩ := H
        have p554 : 0 ≤ (x21_1 : Int) := of_decide_eq_true (Kh)
        have q554 : x21_1 < (l0.length : Int) := of_decide_eq_true (Kh)
        obtain ⟨ad554, e554, hx554_0, hx554_1, hx554_2, hx554_3, hx554_4, hx554_5, hx554_6, hx554_7, hx554_8⟩ := at_T29 HR0.out x21_1 p554 q554
        cases e554
        replace hx554_0 := (HB.out.cell (JO w _ hx554_0)).trans hx554_0
        replace hx554_1 := (HB.out.cell (JO w _ hx554_1)).trans hx554_1
        replace hx554_2 := (HB.out.cell (JO w _ hx554_2)).trans hx554_2
        replace hx554_3 := (HB.out.cell (JO w _ hx554_3)).trans hx554_3
        replace hx554_4 := (HB.out.cell (JO w _ hx554_4)).trans hx554_4
        replace hx554_5 := (HB.out.cell (JO w _ hx554_5)).trans hx554_5
        replace hx554_6 := (HB.out.cell (JO w _ hx554_6)).trans hx554_6
        replace hx554_7 := (HB.out.cell (JO w _ hx554_7)).trans hx554_7
        replace hx554_8 := (HB.out.cell (JO w _ hx554_8)).trans hx554_8
        replace p554 := eq_true p554
        replace q554 := eq_true q554
        try go_wp2_with (first | ((with_reducible refine gate_dst (N := 10) rfl ?_); refine box_event ?hg (N := 10) ?hd (cs := #[.int .i64 0, .string (⟨#[]⟩ : ByteArray), .string (⟨#[]⟩ : ByteArray), .string (⟨#[]⟩ : ByteArray), .string (⟨#[]⟩ : ByteArray), .int .i64 0, .int .i64 0, .int .i64 0, .string (⟨#[]⟩ : ByteArray)]) (t := 29) ?hr ?_; (case hd => rfl); (case hg => rfl); (case hr => first | (go_simp; done) | (go_simp; rfl)); intro gb555 hg w11 hbox hb; have n0_ := JN (Kd.N_below (Kd.N_elderB (KV) gb555 (Nat.le_of_eq hg.symm)) hb); have n1_ := JN (JB (Ka) hb); have n2_ := JN (hbox); have n3_ := JN ((Kk : w.heap.size ≤ gb555)); have n4_ := JN ((Kk : w.heap.size ≤ gb555)); clear HO_7; clear HB; have HO_7 := n0_; have HB := n1_; have BK555 := n2_; have GW555 := n3_; have GE555 := n4_; clear n0_ n1_ n2_ n3_ n4_; clear hb hbox hg; have hcz12_0 : w11.cell? ⟨gb555, 0, none⟩ = some (.int .i64 0) := (Jw BK555.out 0).trans rfl; have hcz12_1 : w11.cell? ⟨gb555, 1, none⟩ = some (.string (⟨#[]⟩ : ByteArray)) := (Jw BK555.out 1).trans rfl; have hcz12_2 : w11.cell? ⟨gb555, 2, none⟩ = some (.string (⟨#[]⟩ : ByteArray)) := (Jw BK555.out 2).trans rfl; have hcz12_3 : w11.cell? ⟨gb555, 3, none⟩ = some (.string (⟨#[]⟩ : ByteArray)) := (Jw BK555.out 3).trans rfl; have hcz12_4 : w11.cell? ⟨gb555, 4, none⟩ = some (.string (⟨#[]⟩ : ByteArray)) := (Jw BK555.out 4).trans rfl; have hcz12_5 : w11.cell? ⟨gb555, 5, none⟩ = some (.int .i64 0) := (Jw BK555.out 5).trans rfl; have hcz12_6 : w11.cell? ⟨gb555, 6, none⟩ = some (.int .i64 0) := (Jw BK555.out 6).trans rfl; have hcz12_7 : w11.cell? ⟨gb555, 7, none⟩ = some (.int .i64 0) := (Jw BK555.out 7).trans rfl; have hcz12_8 : w11.cell? ⟨gb555, 8, none⟩ = some (.string (⟨#[]⟩ : ByteArray)) := (Jw BK555.out 8).trans rfl; have hfz12_0 := Jz BK555.out 0; have hfz12_1 := Jz BK555.out 1; have hfz12_2 := Jz BK555.out 2; have hfz12_3 := Jz BK555.out 3; have hfz12_4 := Jz BK555.out 4; have hfz12_5 := Jz BK555.out 5; have hfz12_6 := Jz BK555.out 6; have hfz12_7 := Jz BK555.out 7; have hfz12_8 := Jz BK555.out 8))
        have n0_ : Jv (Kd.N (Kd.slice 53 k53) 35 (((((((((w11.setCell ⟨gb555, 0, none⟩ (.int .i64 ((Jy l0 x21_1).f0))).setCell ⟨gb555, 1, none⟩ (.string ((Jy l0 x21_1).f1))).setCell ⟨gb555, 2, none⟩ (.string ((Jy l0 x21_1).f2))).setCell ⟨gb555, 3, none⟩ (.string ((Jy l0 x21_1).f3))).setCell ⟨gb555, 4, none⟩ (.string ((Jy l0 x21_1).f4))).setCell ⟨gb555, 5, none⟩ (.int .i64 ((Jy l0 x21_1).f5))).setCell ⟨gb555, 6, none⟩ (.int .i64 ((Jy l0 x21_1).f6.f0))).setCell ⟨gb555, 7, none⟩ (.int .i64 ((Jy l0 x21_1).f6.f1))).setCell ⟨gb555, 8, none⟩ (.string ((Jy l0 x21_1).f6.f2))) w.heap.size (fun k_ => k_ ≠ gb555) v551 t550) := ⟨KD⟩
        have n1_ : Jv ((((((((((w11.setCell ⟨gb555, 0, none⟩ (.int .i64 ((Jy l0 x21_1).f0))).setCell ⟨gb555, 1, none⟩ (.string ((Jy l0 x21_1).f1))).setCell ⟨gb555, 2, none⟩ (.string ((Jy l0 x21_1).f2))).setCell ⟨gb555, 3, none⟩ (.string ((Jy l0 x21_1).f3))).setCell ⟨gb555, 4, none⟩ (.string ((Jy l0 x21_1).f4))).setCell ⟨gb555, 5, none⟩ (.int .i64 ((Jy l0 x21_1).f5))).setCell ⟨gb555, 6, none⟩ (.int .i64 ((Jy l0 x21_1).f6.f0))).setCell ⟨gb555, 7, none⟩ (.int .i64 ((Jy l0 x21_1).f6.f1))).setCell ⟨gb555, 8, none⟩ (.string ((Jy l0 x21_1).f6.f2))).heap[gb555]? = some (.cells #[.int .i64 ((Jy l0 x21_1).f0), .string ((Jy l0 x21_1).f1), .string ((Jy l0 x21_1).f2), .string ((Jy l0 x21_1).f3), .string ((Jy l0 x21_1).f4), .int .i64 ((Jy l0 x21_1).f5), .int .i64 ((Jy l0 x21_1).f6.f0), .int .i64 ((Jy l0 x21_1).f6.f1), .string ((Jy l0 x21_1).f6.f2)] 29 (0, 0))) := ⟨by (with_reducible repeat (first | refine blk_drewN ?_ _ | refine JF ?_ | refine JE ?_ _)); refine blk_put (cs := #[.int .i64 ((Jy l0 x21_1).f0), .string ((Jy l0 x21_1).f1), .string ((Jy l0 x21_1).f2), .string ((Jy l0 x21_1).f3), .string ((Jy l0 x21_1).f4), .int .i64 ((Jy l0 x21_1).f5), .int .i64 ((Jy l0 x21_1).f6.f0), .int .i64 ((Jy l0 x21_1).f6.f1), .string (⟨#[]⟩ : ByteArray)]) ?_ 8 _ rfl; (with_reducible repeat (first | refine blk_drewN ?_ _ | refine JF ?_ | refine JE ?_ _)); refine blk_put (cs := #[.int .i64 ((Jy l0 x21_1).f0), .string ((Jy l0 x21_1).f1), .string ((Jy l0 x21_1).f2), .string ((Jy l0 x21_1).f3), .string ((Jy l0 x21_1).f4), .int .i64 ((Jy l0 x21_1).f5), .int .i64 ((Jy l0 x21_1).f6.f0), .int .i64 0, .string (⟨#[]⟩ : ByteArray)]) ?_ 7 _ rfl; (with_reducible repeat (first | refine blk_drewN ?_ _ | refine JF ?_ | refine JE ?_ _)); refine blk_put (cs := #[.int .i64 ((Jy l0 x21_1).f0), .string ((Jy l0 x21_1).f1), .string ((Jy l0 x21_1).f2), .string ((Jy l0 x21_1).f3), .string ((Jy l0 x21_1).f4), .int .i64 ((Jy l0 x21_1).f5), .int .i64 0, .int .i64 0, .string (⟨#[]⟩ : ByteArray)]) ?_ 6 _ rfl; (with_reducible repeat (first | refine blk_drewN ?_ _ | refine JF ?_ | refine JE ?_ _)); refine blk_put (cs := #[.int .i64 ((Jy l0 x21_1).f0), .string ((Jy l0 x21_1).f1), .string ((Jy l0 x21_1).f2), .string ((Jy l0 x21_1).f3), .string ((Jy l0 x21_1).f4), .int .i64 0, .int .i64 0, .int .i64 0, .string (⟨#[]⟩ : ByteArray)]) ?_ 5 _ rfl; (with_reducible repeat (first | refine blk_drewN ?_ _ | refine JF ?_ | refine JE ?_ _)); refine blk_put (cs := #[.int .i64 ((Jy l0 x21_1).f0), .string ((Jy l0 x21_1).f1), .string ((Jy l0 x21_1).f2), .string ((Jy l0 x21_1).f3), .string (⟨#[]⟩ : ByteArray), .int .i64 0, .int .i64 0, .int .i64 0, .string (⟨#[]⟩ : ByteArray)]) ?_ 4 _ rfl; (with_reducible repeat (first | refine blk_drewN ?_ _ | refine JF ?_ | refine JE ?_ _)); refine blk_put (cs := #[.int .i64 ((Jy l0 x21_1).f0), .string ((Jy l0 x21_1).f1), .string ((Jy l0 x21_1).f2), .string (⟨#[]⟩ : ByteArray), .string (⟨#[]⟩ : ByteArray), .int .i64 0, .int .i64 0, .int .i64 0, .string (⟨#[]⟩ : ByteArray)]) ?_ 3 _ rfl; (with_reducible repeat (first | refine blk_drewN ?_ _ | refine JF ?_ | refine JE ?_ _)); refine blk_put (cs := #[.int .i64 ((Jy l0 x21_1).f0), .string ((Jy l0 x21_1).f1), .string (⟨#[]⟩ : ByteArray), .string (⟨#[]⟩ : ByteArray), .string (⟨#[]⟩ : ByteArray), .int .i64 0, .int .i64 0, .int .i64 0, .string (⟨#[]⟩ : ByteArray)]) ?_ 2 _ rfl; (with_reducible repeat (first | refine blk_drewN ?_ _ | refine JF ?_ | refine JE ?_ _)); refine blk_put (cs := #[.int .i64 ((Jy l0 x21_1).f0), .string (⟨#[]⟩ : ByteArray), .string (⟨#[]⟩ : ByteArray), .string (⟨#[]⟩ : ByteArray), .string (⟨#[]⟩ : ByteArray), .int .i64 0, .int .i64 0, .int .i64 0, .string (⟨#[]⟩ : ByteArray)]) ?_ 1 _ rfl; (with_reducible repeat (first | refine blk_drewN ?_ _ | refine JF ?_ | refine JE ?_ _)); refine blk_put (cs := #[.int .i64 0, .string (⟨#[]⟩ : ByteArray), .string (⟨#[]⟩ : ByteArray), .string (⟨#[]⟩ : ByteArray), .string (⟨#[]⟩ : ByteArray), .int .i64 0, .int .i64 0, .int .i64 0, .string (⟨#[]⟩ : ByteArray)]) ?_ 0 _ rfl; (with_reducible repeat (first | refine blk_drewN ?_ _ | refine JF ?_ | refine JE ?_ _)); exact BK555.out⟩
        have n2_ : Jv (Below w.heap.size w (((((((((w11.setCell ⟨gb555, 0, none⟩ (.int .i64 ((Jy l0 x21_1).f0))).setCell ⟨gb555, 1, none⟩ (.string ((Jy l0 x21_1).f1))).setCell ⟨gb555, 2, none⟩ (.string ((Jy l0 x21_1).f2))).setCell ⟨gb555, 3, none⟩ (.string ((Jy l0 x21_1).f3))).setCell ⟨gb555, 4, none⟩ (.string ((Jy l0 x21_1).f4))).setCell ⟨gb555, 5, none⟩ (.int .i64 ((Jy l0 x21_1).f5))).setCell ⟨gb555, 6, none⟩ (.int .i64 ((Jy l0 x21_1).f6.f0))).setCell ⟨gb555, 7, none⟩ (.int .i64 ((Jy l0 x21_1).f6.f1))).setCell ⟨gb555, 8, none⟩ (.string ((Jy l0 x21_1).f6.f2)))) := ⟨KA⟩
        (try clear HO_7)
        (try clear BK555)
        (try clear HB)
        generalize (((((((((w11.setCell ⟨gb555, 0, none⟩ (.int .i64 ((Jy l0 x21_1).f0))).setCell ⟨gb555, 1, none⟩ (.string ((Jy l0 x21_1).f1))).setCell ⟨gb555, 2, none⟩ (.string ((Jy l0 x21_1).f2))).setCell ⟨gb555, 3, none⟩ (.string ((Jy l0 x21_1).f3))).setCell ⟨gb555, 4, none⟩ (.string ((Jy l0 x21_1).f4))).setCell ⟨gb555, 5, none⟩ (.int .i64 ((Jy l0 x21_1).f5))).setCell ⟨gb555, 6, none⟩ (.int .i64 ((Jy l0 x21_1).f6.f0))).setCell ⟨gb555, 7, none⟩ (.int .i64 ((Jy l0 x21_1).f6.f1))).setCell ⟨gb555, 8, none⟩ (.string ((Jy l0 x21_1).f6.f2))) = w13 at n0_ n1_ n2_ ⊢
        have HO_7 := n0_
        have BK555 := n1_
        have HB := n2_
        clear n0_ n1_ n2_
        have n0_ := JN (Kd.N_drew HO_7.out)
        have n1_ := JN (JF BK555.out)
        have n2_ := JN (JH HB.out)
        clear HO_7
        clear BK555
        clear HB
        have HO_7 := n0_
        have BK555 := n1_
        have HB := n2_
        clear n0_ n1_ n2_
        obtain ⟨Ao15, co15, eo15⟩ := Kd.N_slice HO_7.out
        (first | subst eo15 | (injection eo15 with f1_ f2_ f3_; have f4_ := f1_.symm; have f5_ := f3_.symm; clear f1_ f2_ f3_; subst f4_; subst f5_))
        have p556 : 0 ≤ (x21_1 : Int) := of_decide_eq_true (Kh)
        have q556 : x21_1 < (t550.length : Int) := of_decide_eq_true (Kh)
        obtain ⟨ad556, A556_0, c556_0, e556, hx556_0, hl556_0, hi556_0⟩ := at_L8 (Kd.N_reads' HO_7.out).2.2 x21_1 p556 q556
        cases e556
        obtain ⟨ce556, hce556, hMe556, hcc556⟩ := Kd.N_get HO_7.out [] x21_1 p556 (by first | exact q556 | exact of_decide_eq_true (Kh) | (have e_ := (Kd.N_reads' HO_7.out).1; omega))
        obtain ⟨ua556_0, uc556_0, rfl, ul556_0, ge556_0⟩ := Kd.FK_slice_open hMe556
        have hv556_0 := hcc556 0 _ rfl
        rw [Nat.add_zero, show ((Kd.slice 53 k53)).sz = 1 from rfl, Nat.mul_one] at hv556_0
        replace hv556_0 := Option.some.inj (hv556_0.symm.trans hx556_0)
        injection hv556_0 with hva_ hvn_ hvc_
        rw [hva_] at ge556_0
        rw [hvc_] at ul556_0
        have HL556_0 := JN (show Kd.V k53 53 _ w.heap.size _ _ (rd_L8 t550 x21_1) from Kd.V_mk ul556_0 ge556_0)
        clear hva_ hvn_ hvc_ ge556_0 ul556_0
        clear hcc556 hce556
        have HR556_0 := JN hi556_0
        have HC556_0 := JN hl556_0
        clear hi556_0 hl556_0
        replace p556 := eq_true p556
        replace q556 := eq_true q556
        refine start_ (n := 11) (S := fun w' => w'.cell? ⟨gb555, 0, none⟩ = some (.int .i64 ((Jy l0 x21_1).f0)) ∧ w'.cell? ⟨gb555, 1, none⟩ = some (.string ((Jy l0 x21_1).f1)) ∧ w'.cell? ⟨gb555, 2, none⟩ = some (.string ((Jy l0 x21_1).f2)) ∧ w'.cell? ⟨gb555, 3, none⟩ = some (.string ((Jy l0 x21_1).f3)) ∧ w'.cell? ⟨gb555, 4, none⟩ = some (.string ((Jy l0 x21_1).f4)) ∧ w'.cell? ⟨gb555, 5, none⟩ = some (.int .i64 ((Jy l0 x21_1).f5)) ∧ w'.cell? ⟨gb555, 6, none⟩ = some (.int .i64 ((Jy l0 x21_1).f6.f0)) ∧ w'.cell? ⟨gb555, 7, none⟩ = some (.int .i64 ((Jy l0 x21_1).f6.f1)) ∧ w'.cell? ⟨gb555, 8, none⟩ = some (.string ((Jy l0 x21_1).f6.f2)) ∧ w'.cell? (ad556.add (x21_1).toNat) = some (.slice A556_0 (rd_L8 t550 x21_1).length c556_0)) (ds := []) #[false, false, false, false, false, false, false, false, false, false, false] (Kg) rfl rfl ⟨(Jw BK555.out 0).trans rfl, (Jw BK555.out 1).trans rfl, (Jw BK555.out 2).trans rfl, (Jw BK555.out 3).trans rfl, (Jw BK555.out 4).trans rfl, (Jw BK555.out 5).trans rfl, (Jw BK555.out 6).trans rfl, (Jw BK555.out 7).trans rfl, (Jw BK555.out 8).trans rfl, hx556_0⟩ (fun hHeld => ?_); refine with_tabW lens_Lossless.tab5 lens_Lossless.bits5 (fun HT_ HW_ => ?_)
        generalize w13.drew = w14 at HO_7 BK555 HB HL556_0 HR556_0 hx556_0 hHeld ⊢
        refine pure_ (i := 1) (N := some 28) #[false, true, false, false, false, false, false, false, false, false, false] rfl rfl (any_of HT_.out (Kg)) (fun _ _ _ h => h) (Or.inl ⟨rfl, (Ki)⟩) (Kb) ?_
        refine pure_ (i := 2) (N := some 29) #[false, true, true, false, false, false, false, false, false, false, false] rfl rfl (any_of HT_.out (Kg)) (fun _ _ _ h => h) (Or.inl ⟨rfl, (Ki)⟩) (Kb) ?_
        refine pure_ (i := 3) (N := some 30) #[false, true, true, true, false, false, false, false, false, false, false] rfl rfl (any_of HT_.out (Kg)) (fun _ _ _ h => h) (Or.inl ⟨rfl, (Ki)⟩) (Kb) ?_
        refine take_ (i := 0) (N := some 27) #[true, true, true, true, false, false, false, false, false, false, false] rfl rfl (take_ofW HT_.out HW_.out (Kg)) (fun _ _ _ h => h) (Or.inl ⟨rfl, (KJ)⟩) hHeld (Kb) ?_
        refine take_ (i := 4) (N := some 31) #[true, true, true, true, true, false, false, false, false, false, false] rfl rfl (take_ofW HT_.out HW_.out (Kg)) (fun _ _ _ h => h) (Or.inl ⟨rfl, (KJ)⟩) hHeld (Kb) ?_
        refine one_ (i := 5) (N := some 32) #[true, true, true, true, true, true, false, false, false, false, false] rfl rfl (one_of HT_.out (Kg)) (by decide) (fun K hK => ?_)
        refine goes_ Tryz.func61 (Kg) rfl #[.agg #[.int .i64 ((Jy l0 x21_1).f0), .string ((Jy l0 x21_1).f1), .string ((Jy l0 x21_1).f2), .string ((Jy l0 x21_1).f3), .string ((Jy l0 x21_1).f4), .int .i64 ((Jy l0 x21_1).f5), .int .i64 ((Jy l0 x21_1).f6.f0), .int .i64 ((Jy l0 x21_1).f6.f1), .string ((Jy l0 x21_1).f6.f2)], .slice A556_0 (rd_L8 t550 x21_1).length c556_0] (by rfl) rfl rfl (Ke) ?_
        with_reducible refine (lens_changed.calls ((Jy l0 x21_1).f0) ((Jy l0 x21_1).f1) ((Jy l0 x21_1).f2) ((Jy l0 x21_1).f3) ((Jy l0 x21_1).f4) ((Jy l0 x21_1).f5) ((Jy l0 x21_1).f6.f0) ((Jy l0 x21_1).f6.f1) ((Jy l0 x21_1).f6.f2) _ _ (rd_L8 t550 x21_1) t557 true _ ?side1 ?side2 A9.out).mono ?_
        (case side1 => repeat (first | exact (KT) | (with_reducible refine Kd.C_alloc ?_ _) | (with_reducible refine Kd.C_drewN ?_ _) | (with_reducible refine Kd.C_drew ?_)))
        (case side2 => exact HC556_0.out)
        rintro e w16 ⟨v558, rfl, ho0, hb⟩
        have HS9_ := (hb.cell (JO _ _ (hHeld.2.2.2.2.2.2.2.2.2))).trans (hHeld.2.2.2.2.2.2.2.2.2)
        refine ⟨_, rfl, ?_⟩
        have n0_ := JN (Kd.N_elder' (KV) (Kd.R_base ho0) hb)
        have n1_ := JN (Kd.V_elder' (by (with_reducible repeat (first | apply Kd.V_alloc | apply Kd.V_drewN | apply Kd.V_drew)); exact HL556_0.out) (Kd.R_base ho0) hb)
        have n2_ := JN (Kd.R_lower ho0 (below_size (KA)))
        have n3_ := JN (blk_below (g := gb555) (o := .cells #[.int .i64 ((Jy l0 x21_1).f0), .string ((Jy l0 x21_1).f1), .string ((Jy l0 x21_1).f2), .string ((Jy l0 x21_1).f3), .string ((Jy l0 x21_1).f4), .int .i64 ((Jy l0 x21_1).f5), .int .i64 ((Jy l0 x21_1).f6.f0), .int .i64 ((Jy l0 x21_1).f6.f1), .string ((Jy l0 x21_1).f6.f2)] 29 (0, 0)) (by (with_reducible repeat (first | refine blk_drewN ?_ _ | refine JF ?_ | refine JE ?_ _)); exact BK555.out) hb)
        have n4_ := JN (Kd.C_below (KT) hb)
        have n5_ := JN (JB (KA) hb)
        clear HO_7
        clear HL556_0
        clear BK555
        clear HR556_0
        clear HB
        have HO_7 := n0_
        have HL556_0 := n1_
        have HO559 := n2_
        have BK555 := n3_
        have HR556_0 := n4_
        have HB := n5_
        clear n0_ n1_ n2_ n3_ n4_ n5_
        (try clear hb)
        (try clear hb2)
        (try clear hk)
        (try clear hi)
        (try clear ho0)
        refine hK.out _ _ ⟨(Jw BK555.out 0).trans rfl, (Jw BK555.out 1).trans rfl, (Jw BK555.out 2).trans rfl, (Jw BK555.out 3).trans rfl, (Jw BK555.out 4).trans rfl, (Jw BK555.out 5).trans rfl, (Jw BK555.out 6).trans rfl, (Jw BK555.out 7).trans rfl, (Jw BK555.out 8).trans rfl, HS9_⟩ (fun hHeld => ?_)
        clear hK K
        refine norm_ (a' := ?_) ?_ ?_
        rotate_left
        ·
         show Act.put _ (some 32) _ = _
         simp only [Act.put, List.setIfInBounds_toArray, List.set_cons_zero, List.set_cons_succ, i64_w, i32_w]
         rfl
        refine pure_ (i := 6) (N := some 26) #[true, true, true, true, true, true, true, false, false, false, false] rfl rfl (any_of HT_.out (Kg)) (fun _ _ _ h => h) (Or.inl ⟨rfl, (Ki)⟩) (Kb) ?_
        refine pure_ (i := 7) (N := some 33) #[true, true, true, true, true, true, true, true, false, false, false] rfl rfl (any_of HT_.out (Kg)) (fun _ _ _ h => h) (Or.inl ⟨rfl, (Ki)⟩) (Kb) ?_
        refine pure_ (i := 8) (N := some 34) #[true, true, true, true, true, true, true, true, true, false, false] rfl rfl (any_of HT_.out (Kg)) (fun _ _ _ h => h) (Or.inl ⟨rfl, (Ki)⟩) (Kb) ?_
        refine pure_ (i := 9) (N := some 11) #[true, true, true, true, true, true, true, true, true, true, false] rfl rfl (any_of HT_.out (Kg)) (fun _ _ _ h => h) (Or.inl ⟨rfl, (Ki)⟩) (Kb) ?_
        refine pure_ (i := 10) (N := some 12) #[true, true, true, true, true, true, true, true, true, true, true] rfl rfl (any_of HT_.out (Kg)) (fun _ _ _ h => h) (Or.inl ⟨rfl, (Ki)⟩) (Kb) ?_
        refine done_ (done_of HT_.out (Kg)) ?_
        try go_wp2
        go_ret3
        exact ⟨_, Kf, by (with_reducible repeat (first | apply Kd.R_alloc | apply Kd.R_drewN | apply Kd.R_drew)); exact HO559.out, KA⟩
       ·
        replace c10 := Bool.eq_false_iff.mpr c10
        subst c10
        have H1 : (lens_Lossless.l0 k1 t550 l0 (l0.length : Int) (wrap64 (x21_1 + 1))) = some (r1, r2, r3) := by rw [if_neg (show ¬ (false = true) by decide)] at H; exact H
        clear H
        have H := H1
        clear H1
        have H' := JN H
        clear H
        have p554 : 0 ≤ (x21_1 : Int) := of_decide_eq_true (Kh)
        have q554 : x21_1 < (l0.length : Int) := of_decide_eq_true (Kh)
        obtain ⟨ad554, e554, hx554_0, hx554_1, hx554_2, hx554_3, hx554_4, hx554_5, hx554_6, hx554_7, hx554_8⟩ := at_T29 HR0.out x21_1 p554 q554
        cases e554
        replace hx554_0 := (HB.out.cell (JO w _ hx554_0)).trans hx554_0
        replace hx554_1 := (HB.out.cell (JO w _ hx554_1)).trans hx554_1
        replace hx554_2 := (HB.out.cell (JO w _ hx554_2)).trans hx554_2
        replace hx554_3 := (HB.out.cell (JO w _ hx554_3)).trans hx554_3
        replace hx554_4 := (HB.out.cell (JO w _ hx554_4)).trans hx554_4
        replace hx554_5 := (HB.out.cell (JO w _ hx554_5)).trans hx554_5
        replace hx554_6 := (HB.out.cell (JO w _ hx554_6)).trans hx554_6
        replace hx554_7 := (HB.out.cell (JO w _ hx554_7)).trans hx554_7
        replace hx554_8 := (HB.out.cell (JO w _ hx554_8)).trans hx554_8
        replace p554 := eq_true p554
        replace q554 := eq_true q554
        try go_wp2_with (first | ((with_reducible refine gate_dst (N := 10) rfl ?_); refine box_event ?hg (N := 10) ?hd (cs := #[.int .i64 0, .string (⟨#[]⟩ : ByteArray), .string (⟨#[]⟩ : ByteArray), .string (⟨#[]⟩ : ByteArray), .string (⟨#[]⟩ : ByteArray), .int .i64 0, .int .i64 0, .int .i64 0, .string (⟨#[]⟩ : ByteArray)]) (t := 29) ?hr ?_; (case hd => rfl); (case hg => rfl); (case hr => first | (go_simp; done) | (go_simp; rfl)); intro gb555 hg w17 hbox hb; have n0_ := JN (Kd.N_below (Kd.N_elderB (KV) gb555 (Nat.le_of_eq hg.symm)) hb); have n1_ := JN (JB (Ka) hb); have n2_ := JN (hbox); have n3_ := JN ((Kk : w.heap.size ≤ gb555)); have n4_ := JN ((Kk : w.heap.size ≤ gb555)); clear HO_7; clear HB; have HO_7 := n0_; have HB := n1_; have BK555 := n2_; have GW555 := n3_; have GE555 := n4_; clear n0_ n1_ n2_ n3_ n4_; clear hb hbox hg; have hcz18_0 : w17.cell? ⟨gb555, 0, none⟩ = some (.int .i64 0) := (Jw BK555.out 0).trans rfl; have hcz18_1 : w17.cell? ⟨gb555, 1, none⟩ = some (.string (⟨#[]⟩ : ByteArray)) := (Jw BK555.out 1).trans rfl; have hcz18_2 : w17.cell? ⟨gb555, 2, none⟩ = some (.string (⟨#[]⟩ : ByteArray)) := (Jw BK555.out 2).trans rfl; have hcz18_3 : w17.cell? ⟨gb555, 3, none⟩ = some (.string (⟨#[]⟩ : ByteArray)) := (Jw BK555.out 3).trans rfl; have hcz18_4 : w17.cell? ⟨gb555, 4, none⟩ = some (.string (⟨#[]⟩ : ByteArray)) := (Jw BK555.out 4).trans rfl; have hcz18_5 : w17.cell? ⟨gb555, 5, none⟩ = some (.int .i64 0) := (Jw BK555.out 5).trans rfl; have hcz18_6 : w17.cell? ⟨gb555, 6, none⟩ = some (.int .i64 0) := (Jw BK555.out 6).trans rfl; have hcz18_7 : w17.cell? ⟨gb555, 7, none⟩ = some (.int .i64 0) := (Jw BK555.out 7).trans rfl; have hcz18_8 : w17.cell? ⟨gb555, 8, none⟩ = some (.string (⟨#[]⟩ : ByteArray)) := (Jw BK555.out 8).trans rfl; have hfz18_0 := Jz BK555.out 0; have hfz18_1 := Jz BK555.out 1; have hfz18_2 := Jz BK555.out 2; have hfz18_3 := Jz BK555.out 3; have hfz18_4 := Jz BK555.out 4; have hfz18_5 := Jz BK555.out 5; have hfz18_6 := Jz BK555.out 6; have hfz18_7 := Jz BK555.out 7; have hfz18_8 := Jz BK555.out 8))
        have n0_ : Jv (Kd.N (Kd.slice 53 k53) 35 (((((((((w17.setCell ⟨gb555, 0, none⟩ (.int .i64 ((Jy l0 x21_1).f0))).setCell ⟨gb555, 1, none⟩ (.string ((Jy l0 x21_1).f1))).setCell ⟨gb555, 2, none⟩ (.string ((Jy l0 x21_1).f2))).setCell ⟨gb555, 3, none⟩ (.string ((Jy l0 x21_1).f3))).setCell ⟨gb555, 4, none⟩ (.string ((Jy l0 x21_1).f4))).setCell ⟨gb555, 5, none⟩ (.int .i64 ((Jy l0 x21_1).f5))).setCell ⟨gb555, 6, none⟩ (.int .i64 ((Jy l0 x21_1).f6.f0))).setCell ⟨gb555, 7, none⟩ (.int .i64 ((Jy l0 x21_1).f6.f1))).setCell ⟨gb555, 8, none⟩ (.string ((Jy l0 x21_1).f6.f2))) w.heap.size (fun k_ => k_ ≠ gb555) v551 t550) := ⟨KD⟩
        have n1_ : Jv ((((((((((w17.setCell ⟨gb555, 0, none⟩ (.int .i64 ((Jy l0 x21_1).f0))).setCell ⟨gb555, 1, none⟩ (.string ((Jy l0 x21_1).f1))).setCell ⟨gb555, 2, none⟩ (.string ((Jy l0 x21_1).f2))).setCell ⟨gb555, 3, none⟩ (.string ((Jy l0 x21_1).f3))).setCell ⟨gb555, 4, none⟩ (.string ((Jy l0 x21_1).f4))).setCell ⟨gb555, 5, none⟩ (.int .i64 ((Jy l0 x21_1).f5))).setCell ⟨gb555, 6, none⟩ (.int .i64 ((Jy l0 x21_1).f6.f0))).setCell ⟨gb555, 7, none⟩ (.int .i64 ((Jy l0 x21_1).f6.f1))).setCell ⟨gb555, 8, none⟩ (.string ((Jy l0 x21_1).f6.f2))).heap[gb555]? = some (.cells #[.int .i64 ((Jy l0 x21_1).f0), .string ((Jy l0 x21_1).f1), .string ((Jy l0 x21_1).f2), .string ((Jy l0 x21_1).f3), .string ((Jy l0 x21_1).f4), .int .i64 ((Jy l0 x21_1).f5), .int .i64 ((Jy l0 x21_1).f6.f0), .int .i64 ((Jy l0 x21_1).f6.f1), .string ((Jy l0 x21_1).f6.f2)] 29 (0, 0))) := ⟨by (with_reducible repeat (first | refine blk_drewN ?_ _ | refine JF ?_ | refine JE ?_ _)); refine blk_put (cs := #[.int .i64 ((Jy l0 x21_1).f0), .string ((Jy l0 x21_1).f1), .string ((Jy l0 x21_1).f2), .string ((Jy l0 x21_1).f3), .string ((Jy l0 x21_1).f4), .int .i64 ((Jy l0 x21_1).f5), .int .i64 ((Jy l0 x21_1).f6.f0), .int .i64 ((Jy l0 x21_1).f6.f1), .string (⟨#[]⟩ : ByteArray)]) ?_ 8 _ rfl; (with_reducible repeat (first | refine blk_drewN ?_ _ | refine JF ?_ | refine JE ?_ _)); refine blk_put (cs := #[.int .i64 ((Jy l0 x21_1).f0), .string ((Jy l0 x21_1).f1), .string ((Jy l0 x21_1).f2), .string ((Jy l0 x21_1).f3), .string ((Jy l0 x21_1).f4), .int .i64 ((Jy l0 x21_1).f5), .int .i64 ((Jy l0 x21_1).f6.f0), .int .i64 0, .string (⟨#[]⟩ : ByteArray)]) ?_ 7 _ rfl; (with_reducible repeat (first | refine blk_drewN ?_ _ | refine JF ?_ | refine JE ?_ _)); refine blk_put (cs := #[.int .i64 ((Jy l0 x21_1).f0), .string ((Jy l0 x21_1).f1), .string ((Jy l0 x21_1).f2), .string ((Jy l0 x21_1).f3), .string ((Jy l0 x21_1).f4), .int .i64 ((Jy l0 x21_1).f5), .int .i64 0, .int .i64 0, .string (⟨#[]⟩ : ByteArray)]) ?_ 6 _ rfl; (with_reducible repeat (first | refine blk_drewN ?_ _ | refine JF ?_ | refine JE ?_ _)); refine blk_put (cs := #[.int .i64 ((Jy l0 x21_1).f0), .string ((Jy l0 x21_1).f1), .string ((Jy l0 x21_1).f2), .string ((Jy l0 x21_1).f3), .string ((Jy l0 x21_1).f4), .int .i64 0, .int .i64 0, .int .i64 0, .string (⟨#[]⟩ : ByteArray)]) ?_ 5 _ rfl; (with_reducible repeat (first | refine blk_drewN ?_ _ | refine JF ?_ | refine JE ?_ _)); refine blk_put (cs := #[.int .i64 ((Jy l0 x21_1).f0), .string ((Jy l0 x21_1).f1), .string ((Jy l0 x21_1).f2), .string ((Jy l0 x21_1).f3), .string (⟨#[]⟩ : ByteArray), .int .i64 0, .int .i64 0, .int .i64 0, .string (⟨#[]⟩ : ByteArray)]) ?_ 4 _ rfl; (with_reducible repeat (first | refine blk_drewN ?_ _ | refine JF ?_ | refine JE ?_ _)); refine blk_put (cs := #[.int .i64 ((Jy l0 x21_1).f0), .string ((Jy l0 x21_1).f1), .string ((Jy l0 x21_1).f2), .string (⟨#[]⟩ : ByteArray), .string (⟨#[]⟩ : ByteArray), .int .i64 0, .int .i64 0, .int .i64 0, .string (⟨#[]⟩ : ByteArray)]) ?_ 3 _ rfl; (with_reducible repeat (first | refine blk_drewN ?_ _ | refine JF ?_ | refine JE ?_ _)); refine blk_put (cs := #[.int .i64 ((Jy l0 x21_1).f0), .string ((Jy l0 x21_1).f1), .string (⟨#[]⟩ : ByteArray), .string (⟨#[]⟩ : ByteArray), .string (⟨#[]⟩ : ByteArray), .int .i64 0, .int .i64 0, .int .i64 0, .string (⟨#[]⟩ : ByteArray)]) ?_ 2 _ rfl; (with_reducible repeat (first | refine blk_drewN ?_ _ | refine JF ?_ | refine JE ?_ _)); refine blk_put (cs := #[.int .i64 ((Jy l0 x21_1).f0), .string (⟨#[]⟩ : ByteArray), .string (⟨#[]⟩ : ByteArray), .string (⟨#[]⟩ : ByteArray), .string (⟨#[]⟩ : ByteArray), .int .i64 0, .int .i64 0, .int .i64 0, .string (⟨#[]⟩ : ByteArray)]) ?_ 1 _ rfl; (with_reducible repeat (first | refine blk_drewN ?_ _ | refine JF ?_ | refine JE ?_ _)); refine blk_put (cs := #[.int .i64 0, .string (⟨#[]⟩ : ByteArray), .string (⟨#[]⟩ : ByteArray), .string (⟨#[]⟩ : ByteArray), .string (⟨#[]⟩ : ByteArray), .int .i64 0, .int .i64 0, .int .i64 0, .string (⟨#[]⟩ : ByteArray)]) ?_ 0 _ rfl; (with_reducible repeat (first | refine blk_drewN ?_ _ | refine JF ?_ | refine JE ?_ _)); exact BK555.out⟩
        have n2_ : Jv (Below w.heap.size w (((((((((w17.setCell ⟨gb555, 0, none⟩ (.int .i64 ((Jy l0 x21_1).f0))).setCell ⟨gb555, 1, none⟩ (.string ((Jy l0 x21_1).f1))).setCell ⟨gb555, 2, none⟩ (.string ((Jy l0 x21_1).f2))).setCell ⟨gb555, 3, none⟩ (.string ((Jy l0 x21_1).f3))).setCell ⟨gb555, 4, none⟩ (.string ((Jy l0 x21_1).f4))).setCell ⟨gb555, 5, none⟩ (.int .i64 ((Jy l0 x21_1).f5))).setCell ⟨gb555, 6, none⟩ (.int .i64 ((Jy l0 x21_1).f6.f0))).setCell ⟨gb555, 7, none⟩ (.int .i64 ((Jy l0 x21_1).f6.f1))).setCell ⟨gb555, 8, none⟩ (.string ((Jy l0 x21_1).f6.f2)))) := ⟨KA⟩
        (try clear HO_7)
        (try clear BK555)
        (try clear HB)
        generalize (((((((((w17.setCell ⟨gb555, 0, none⟩ (.int .i64 ((Jy l0 x21_1).f0))).setCell ⟨gb555, 1, none⟩ (.string ((Jy l0 x21_1).f1))).setCell ⟨gb555, 2, none⟩ (.string ((Jy l0 x21_1).f2))).setCell ⟨gb555, 3, none⟩ (.string ((Jy l0 x21_1).f3))).setCell ⟨gb555, 4, none⟩ (.string ((Jy l0 x21_1).f4))).setCell ⟨gb555, 5, none⟩ (.int .i64 ((Jy l0 x21_1).f5))).setCell ⟨gb555, 6, none⟩ (.int .i64 ((Jy l0 x21_1).f6.f0))).setCell ⟨gb555, 7, none⟩ (.int .i64 ((Jy l0 x21_1).f6.f1))).setCell ⟨gb555, 8, none⟩ (.string ((Jy l0 x21_1).f6.f2))) = w19 at n0_ n1_ n2_ ⊢
        have HO_7 := n0_
        have BK555 := n1_
        have HB := n2_
        clear n0_ n1_ n2_
        have n0_ := JN (Kd.N_drew HO_7.out)
        have n1_ := JN (JF BK555.out)
        have n2_ := JN (JH HB.out)
        clear HO_7
        clear BK555
        clear HB
        have HO_7 := n0_
        have BK555 := n1_
        have HB := n2_
        clear n0_ n1_ n2_
        obtain ⟨Ao21, co21, eo21⟩ := Kd.N_slice HO_7.out
        (first | subst eo21 | (injection eo21 with f1_ f2_ f3_; have f4_ := f1_.symm; have f5_ := f3_.symm; clear f1_ f2_ f3_; subst f4_; subst f5_))
        have p556 : 0 ≤ (x21_1 : Int) := of_decide_eq_true (Kh)
        have q556 : x21_1 < (t550.length : Int) := of_decide_eq_true (Kh)
        obtain ⟨ad556, A556_0, c556_0, e556, hx556_0, hl556_0, hi556_0⟩ := at_L8 (Kd.N_reads' HO_7.out).2.2 x21_1 p556 q556
        cases e556
        obtain ⟨ce556, hce556, hMe556, hcc556⟩ := Kd.N_get HO_7.out [] x21_1 p556 (by first | exact q556 | exact of_decide_eq_true (Kh) | (have e_ := (Kd.N_reads' HO_7.out).1; omega))
        obtain ⟨ua556_0, uc556_0, rfl, ul556_0, ge556_0⟩ := Kd.FK_slice_open hMe556
        have hv556_0 := hcc556 0 _ rfl
        rw [Nat.add_zero, show ((Kd.slice 53 k53)).sz = 1 from rfl, Nat.mul_one] at hv556_0
        replace hv556_0 := Option.some.inj (hv556_0.symm.trans hx556_0)
        injection hv556_0 with hva_ hvn_ hvc_
        rw [hva_] at ge556_0
        rw [hvc_] at ul556_0
        have HL556_0 := JN (show Kd.V k53 53 _ w.heap.size _ _ (rd_L8 t550 x21_1) from Kd.V_mk ul556_0 ge556_0)
        clear hva_ hvn_ hvc_ ge556_0 ul556_0
        clear hcc556 hce556
        have HR556_0 := JN hi556_0
        have HC556_0 := JN hl556_0
        clear hi556_0 hl556_0
        replace p556 := eq_true p556
        replace q556 := eq_true q556
        refine start_ (n := 11) (S := fun w' => w'.cell? ⟨gb555, 0, none⟩ = some (.int .i64 ((Jy l0 x21_1).f0)) ∧ w'.cell? ⟨gb555, 1, none⟩ = some (.string ((Jy l0 x21_1).f1)) ∧ w'.cell? ⟨gb555, 2, none⟩ = some (.string ((Jy l0 x21_1).f2)) ∧ w'.cell? ⟨gb555, 3, none⟩ = some (.string ((Jy l0 x21_1).f3)) ∧ w'.cell? ⟨gb555, 4, none⟩ = some (.string ((Jy l0 x21_1).f4)) ∧ w'.cell? ⟨gb555, 5, none⟩ = some (.int .i64 ((Jy l0 x21_1).f5)) ∧ w'.cell? ⟨gb555, 6, none⟩ = some (.int .i64 ((Jy l0 x21_1).f6.f0)) ∧ w'.cell? ⟨gb555, 7, none⟩ = some (.int .i64 ((Jy l0 x21_1).f6.f1)) ∧ w'.cell? ⟨gb555, 8, none⟩ = some (.string ((Jy l0 x21_1).f6.f2)) ∧ w'.cell? (ad556.add (x21_1).toNat) = some (.slice A556_0 (rd_L8 t550 x21_1).length c556_0)) (ds := []) #[false, false, false, false, false, false, false, false, false, false, false] (Kg) rfl rfl ⟨(Jw BK555.out 0).trans rfl, (Jw BK555.out 1).trans rfl, (Jw BK555.out 2).trans rfl, (Jw BK555.out 3).trans rfl, (Jw BK555.out 4).trans rfl, (Jw BK555.out 5).trans rfl, (Jw BK555.out 6).trans rfl, (Jw BK555.out 7).trans rfl, (Jw BK555.out 8).trans rfl, hx556_0⟩ (fun hHeld => ?_); refine with_tabW lens_Lossless.tab5 lens_Lossless.bits5 (fun HT_ HW_ => ?_)
        generalize w19.drew = w20 at HO_7 BK555 HB HL556_0 HR556_0 hx556_0 hHeld ⊢
        refine pure_ (i := 1) (N := some 28) #[false, true, false, false, false, false, false, false, false, false, false] rfl rfl (any_of HT_.out (Kg)) (fun _ _ _ h => h) (Or.inl ⟨rfl, (Ki)⟩) (Kb) ?_
        refine pure_ (i := 2) (N := some 29) #[false, true, true, false, false, false, false, false, false, false, false] rfl rfl (any_of HT_.out (Kg)) (fun _ _ _ h => h) (Or.inl ⟨rfl, (Ki)⟩) (Kb) ?_
        refine pure_ (i := 3) (N := some 30) #[false, true, true, true, false, false, false, false, false, false, false] rfl rfl (any_of HT_.out (Kg)) (fun _ _ _ h => h) (Or.inl ⟨rfl, (Ki)⟩) (Kb) ?_
        refine take_ (i := 0) (N := some 27) #[true, true, true, true, false, false, false, false, false, false, false] rfl rfl (take_ofW HT_.out HW_.out (Kg)) (fun _ _ _ h => h) (Or.inl ⟨rfl, (KJ)⟩) hHeld (Kb) ?_
        refine take_ (i := 4) (N := some 31) #[true, true, true, true, true, false, false, false, false, false, false] rfl rfl (take_ofW HT_.out HW_.out (Kg)) (fun _ _ _ h => h) (Or.inl ⟨rfl, (KJ)⟩) hHeld (Kb) ?_
        refine one_ (i := 5) (N := some 32) #[true, true, true, true, true, true, false, false, false, false, false] rfl rfl (one_of HT_.out (Kg)) (by decide) (fun K hK => ?_)
        refine goes_ Tryz.func61 (Kg) rfl #[.agg #[.int .i64 ((Jy l0 x21_1).f0), .string ((Jy l0 x21_1).f1), .string ((Jy l0 x21_1).f2), .string ((Jy l0 x21_1).f3), .string ((Jy l0 x21_1).f4), .int .i64 ((Jy l0 x21_1).f5), .int .i64 ((Jy l0 x21_1).f6.f0), .int .i64 ((Jy l0 x21_1).f6.f1), .string ((Jy l0 x21_1).f6.f2)], .slice A556_0 (rd_L8 t550 x21_1).length c556_0] (by rfl) rfl rfl (Ke) ?_
        with_reducible refine (lens_changed.calls ((Jy l0 x21_1).f0) ((Jy l0 x21_1).f1) ((Jy l0 x21_1).f2) ((Jy l0 x21_1).f3) ((Jy l0 x21_1).f4) ((Jy l0 x21_1).f5) ((Jy l0 x21_1).f6.f0) ((Jy l0 x21_1).f6.f1) ((Jy l0 x21_1).f6.f2) _ _ (rd_L8 t550 x21_1) t557 false _ ?side1 ?side2 A9.out).mono ?_
        (case side1 => repeat (first | exact (KT) | (with_reducible refine Kd.C_alloc ?_ _) | (with_reducible refine Kd.C_drewN ?_ _) | (with_reducible refine Kd.C_drew ?_)))
        (case side2 => exact HC556_0.out)
        rintro e w22 ⟨v558, rfl, ho0, hb⟩
        have HS9_ := (hb.cell (JO _ _ (hHeld.2.2.2.2.2.2.2.2.2))).trans (hHeld.2.2.2.2.2.2.2.2.2)
        refine ⟨_, rfl, ?_⟩
        have n0_ := JN (Kd.N_elder' (KV) (Kd.R_base ho0) hb)
        have n1_ := JN (Kd.V_elder' (by (with_reducible repeat (first | apply Kd.V_alloc | apply Kd.V_drewN | apply Kd.V_drew)); exact HL556_0.out) (Kd.R_base ho0) hb)
        have n2_ := JN (Kd.R_lower ho0 (below_size (KA)))
        have n3_ := JN (blk_below (g := gb555) (o := .cells #[.int .i64 ((Jy l0 x21_1).f0), .string ((Jy l0 x21_1).f1), .string ((Jy l0 x21_1).f2), .string ((Jy l0 x21_1).f3), .string ((Jy l0 x21_1).f4), .int .i64 ((Jy l0 x21_1).f5), .int .i64 ((Jy l0 x21_1).f6.f0), .int .i64 ((Jy l0 x21_1).f6.f1), .string ((Jy l0 x21_1).f6.f2)] 29 (0, 0)) (by (with_reducible repeat (first | refine blk_drewN ?_ _ | refine JF ?_ | refine JE ?_ _)); exact BK555.out) hb)
        have n4_ := JN (Kd.C_below (KT) hb)
        have n5_ := JN (JB (KA) hb)
        clear HO_7
        clear HL556_0
        clear BK555
        clear HR556_0
        clear HB
        have HO_7 := n0_
        have HL556_0 := n1_
        have HO559 := n2_
        have BK555 := n3_
        have HR556_0 := n4_
        have HB := n5_
        clear n0_ n1_ n2_ n3_ n4_ n5_
        (try clear hb)
        (try clear hb2)
        (try clear hk)
        (try clear hi)
        (try clear ho0)
        refine hK.out _ _ ⟨(Jw BK555.out 0).trans rfl, (Jw BK555.out 1).trans rfl, (Jw BK555.out 2).trans rfl, (Jw BK555.out 3).trans rfl, (Jw BK555.out 4).trans rfl, (Jw BK555.out 5).trans rfl, (Jw BK555.out 6).trans rfl, (Jw BK555.out 7).trans rfl, (Jw BK555.out 8).trans rfl, HS9_⟩ (fun hHeld => ?_)
        clear hK K
        refine norm_ (a' := ?_) ?_ ?_
        rotate_left
        ·
         show Act.put _ (some 32) _ = _
         simp only [Act.put, List.setIfInBounds_toArray, List.set_cons_zero, List.set_cons_succ, i64_w, i32_w]
         rfl
        refine pure_ (i := 6) (N := some 26) #[true, true, true, true, true, true, true, false, false, false, false] rfl rfl (any_of HT_.out (Kg)) (fun _ _ _ h => h) (Or.inl ⟨rfl, (Ki)⟩) (Kb) ?_
        refine pure_ (i := 7) (N := some 33) #[true, true, true, true, true, true, true, true, false, false, false] rfl rfl (any_of HT_.out (Kg)) (fun _ _ _ h => h) (Or.inl ⟨rfl, (Ki)⟩) (Kb) ?_
        refine pure_ (i := 8) (N := some 34) #[true, true, true, true, true, true, true, true, true, false, false] rfl rfl (any_of HT_.out (Kg)) (fun _ _ _ h => h) (Or.inl ⟨rfl, (Ki)⟩) (Kb) ?_
        refine pure_ (i := 9) (N := some 11) #[true, true, true, true, true, true, true, true, true, true, false] rfl rfl (any_of HT_.out (Kg)) (fun _ _ _ h => h) (Or.inl ⟨rfl, (Ki)⟩) (Kb) ?_
        refine pure_ (i := 10) (N := some 12) #[true, true, true, true, true, true, true, true, true, true, true] rfl rfl (any_of HT_.out (Kg)) (fun _ _ _ h => h) (Or.inl ⟨rfl, (Ki)⟩) (Kb) ?_
        refine done_ (done_of HT_.out (Kg)) ?_
        try go_wp2
        go_roundg k1
        case measure => have := HK1.out; omega
        case rel => exact ⟨(wrap64 (x21_1 + 1)), (Km), H', ⟨by have := HK1.out; omega⟩, ⟨by (with_reducible repeat (first | apply Kd.N_alloc | apply Kd.N_drewN | apply Kd.N_drew)); exact Kd.N_mono HO_7.out (fun _ hk => trivial)⟩, ⟨KA⟩⟩
      ·
       rw [if_neg c8] at H
       exact absurd H (by simp)
     ·
      rw [if_neg c7] at H
      exact absurd H (by simp)
    ·
     rw [if_neg c6] at H
     exact absurd H (by simp)
   ·
    rw [if_neg c5] at H
    have c5b0 : decide (x21_1 < (l0.length : Int)) = false := decide_eq_false c5
    clear c5
    simp only [Option.some.injEq, Prod.mk.injEq] at H
    obtain ⟨rfl, rfl, rfl⟩ := H
    go_wp2
    go_ret3
    exact ⟨_, Kf, by first | exact Kd.R_nil _ _ _ _ _ | exact Kd.N_nil _ _ _ _ _ | exact Kd.V_nil _ _ _ _ _ | exact Kd.Q_nil _ _ _ _ _ | exact Kd.S_nil _ _ _ _ _, Ka⟩
end
def colsA : List Col := [⟨⟨#[105, 100]⟩, 0, ⟨#[]⟩⟩, ⟨⟨#[110, 97, 109, 101]⟩, 1, ⟨#[]⟩⟩]
def textA : ByteArray := ⟨#[115, 112, 108, 105, 116, 32, 110, 97, 109, 101, 32, 34, 32, 34, 32, 102, 105, 114, 115, 116, 32, 108, 97, 115, 116, 10]⟩
def stepA : Step := ⟨3, ⟨#[110, 97, 109, 101]⟩, ⟨#[102, 105, 114, 115, 116]⟩, ⟨#[108, 97, 115, 116]⟩, ⟨#[32]⟩, 0, zeroV⟩
def rowA : List Val := [⟨0, 7, ⟨#[]⟩⟩, ⟨1, 0, ⟨#[65, 100, 97, 32, 76, 111, 118, 101, 108, 97, 99, 101, 32, 120]⟩⟩]
def rowA2 : List Val := [⟨0, 7, ⟨#[]⟩⟩, ⟨1, 0, ⟨#[65, 100, 97, 32]⟩⟩]
def fA : List Val := [⟨0, 7, ⟨#[]⟩⟩, ⟨1, 0, ⟨#[65, 100, 97]⟩⟩, ⟨1, 0, ⟨#[76, 111, 118, 101, 108, 97, 99, 101, 32, 120]⟩⟩]
def fA2 : List Val := [⟨0, 7, ⟨#[]⟩⟩, ⟨1, 0, ⟨#[65, 100, 97]⟩⟩, ⟨1, 0, ⟨#[]⟩⟩]
def gA : List Val := [⟨0, 7, ⟨#[]⟩⟩, ⟨1, 0, ⟨#[65, 100, 97]⟩⟩]
def toA : List Col := [⟨⟨#[105, 100]⟩, 0, ⟨#[]⟩⟩, ⟨⟨#[102, 105, 114, 115, 116]⟩, 1, ⟨#[]⟩⟩, ⟨⟨#[108, 97, 115, 116]⟩, 1, ⟨#[]⟩⟩]
def colsB : List Col := [⟨⟨#[119]⟩, 0, ⟨#[107, 103]⟩⟩]
def textB : ByteArray := ⟨#[115, 99, 97, 108, 101, 32, 119, 32, 49, 48, 48, 48, 32, 103, 10]⟩
def stepB : Step := ⟨6, ⟨#[119]⟩, ⟨#[103]⟩, ⟨#[]⟩, ⟨#[]⟩, 1000, zeroV⟩
theorem parseA : lens_Parse.f textA = some ([stepA], true) := by kernel_rfl
theorem forwardA : lens_Forward.f 10 [stepA] colsA rowA = some fA := by kernel_rfl
theorem forwardA2 : lens_Forward.f 10 [stepA] colsA rowA2 = some fA2 := by kernel_rfl
theorem toA_is : lens_To.f 10 [stepA] colsA = some (toA, 0) := by kernel_rfl
theorem backA : lens_Back.f [stepA] colsA fA = some rowA := by kernel_rfl
theorem backA2 : lens_Back.f [stepA] colsA fA2 = some gA := by kernel_rfl
theorem forwardB : lens_Forward.f 10 [stepB] colsB [⟨0, 5, ⟨#[]⟩⟩] = some [⟨0, 5000, ⟨#[]⟩⟩] := by kernel_rfl
theorem losslessB : lens_Lossless.f 10 [stepB] colsB = some (false, 0, [⟨0, 9223372036854775807, ⟨#[]⟩⟩]) := by kernel_rfl
theorem itoa1000 : itoaB 1000 = ⟨#[49, 48, 48, 48]⟩ := by
 have d1 : Lib.decDigits 1 = [49] := by rw [Lib.decDigits, dif_pos (by omega)]; rfl
 have d10 : Lib.decDigits 10 = [49, 48] := by rw [Lib.decDigits, dif_neg (by omega), show 10 / 10 = 1 by omega, d1]; rfl
 have d100 : Lib.decDigits 100 = [49, 48, 48] := by rw [Lib.decDigits, dif_neg (by omega), show 100 / 10 = 10 by omega, d10]; rfl
 have d1000 : Lib.decDigits 1000 = [49, 48, 48, 48] := by rw [Lib.decDigits, dif_neg (by omega), show 1000 / 10 = 100 by omega, d100]; rfl
 unfold itoaB Lib.itoa
 rw [if_neg (by omega), show (1000 : Int).toNat = 1000 from rfl, d1000]
theorem int1000 : intB ⟨#[49, 48, 48, 48]⟩ = (1000, true) := by rw [← itoa1000]; exact intB_itoa 1000 (by omega) (by omega)
theorem wordsB : lens_words.f 34 (trimB textB) = some [⟨#[115, 99, 97, 108, 101]⟩, ⟨#[119]⟩, ⟨#[49, 48, 48, 48]⟩, ⟨#[103]⟩, ⟨#[]⟩, ⟨#[]⟩, ⟨#[]⟩, ⟨#[]⟩] := by kernel_rfl
theorem stepB_is : readW [⟨#[115, 99, 97, 108, 101]⟩, ⟨#[119]⟩, ⟨#[49, 48, 48, 48]⟩, ⟨#[103]⟩, ⟨#[]⟩, ⟨#[]⟩, ⟨#[]⟩, ⟨#[]⟩] = stepB := by
 have h : readW [⟨#[115, 99, 97, 108, 101]⟩, ⟨#[119]⟩, ⟨#[49, 48, 48, 48]⟩, ⟨#[103]⟩, ⟨#[]⟩, ⟨#[]⟩, ⟨#[]⟩, ⟨#[]⟩] = ⟨6, ⟨#[119]⟩, ⟨#[103]⟩, ⟨#[]⟩, ⟨#[]⟩, (intB ⟨#[49, 48, 48, 48]⟩).1, zeroV⟩ := by kernel_rfl
 rw [h, int1000]; rfl
theorem lineB_is : lineT stepB = ⟨#[115, 99, 97, 108, 101, 32, 119, 32, 49, 48, 48, 48, 32, 103]⟩ := by
 have h : lineT stepB = lineS stepB (showB 0 0 ⟨#[]⟩) (quoteT ⟨#[]⟩) (typeT 1000) (itoaB 1000) := rfl
 have e : lineS stepB (showB 0 0 ⟨#[]⟩) (quoteT ⟨#[]⟩) (typeT 1000) ⟨#[49, 48, 48, 48]⟩ = ⟨#[115, 99, 97, 108, 101, 32, 119, 32, 49, 48, 48, 48, 32, 103]⟩ := by kernel_rfl
 rw [h, itoa1000, e]
theorem printB : (printS [stepB]).toList = textB.toList := by
 have h : printS [stepB] = ⟨(((lineT stepB).data.toList ++ [10]) ++ []).toArray⟩ := by kernel_rfl
 have e : (⟨((([115, 99, 97, 108, 101, 32, 119, 32, 49, 48, 48, 48, 32, 103] : List UInt8) ++ [10]) ++ []).toArray⟩ : ByteArray) = textB := by kernel_rfl
 rw [h, lineB_is]
 exact congrArg ByteArray.toList e
theorem linesB_B : linesB textB = [textB] := by kernel_rfl
theorem parseB : lens_Parse.f textB = some ([stepB], true) := by
 have hl : lineStep textB = some stepB := by
  unfold lineStep
  rw [show 2 * textB.size + 4 = 34 from rfl, wordsB]
  simp only [Option.bind_some]
  rw [if_pos ⟨by decide, by decide +kernel⟩, stepB_is]
 have hs : stepsOf (linesB textB) = some [stepB] := by
  rw [linesB_B]
  simp only [stepsOf, hl, Option.bind_some]
 unfold lens_Parse.f
 rw [if_pos (by decide), hs]
 simp only [Option.bind_some]
 rw [if_pos ⟨by decide, by decide +kernel⟩, if_pos printB]
theorem sameA : r03_Same.f 10 rowA rowA = some true := by kernel_rfl
theorem col_lit (W : World) (b : Nat) (l : List Col) (h : W.heap[b]? = some (.cells (cellsOf encCol l).toArray 53 (0, 0))) (hl : l.length ≤ 1000) : Kd.C k53 W (some ⟨b, 0, none⟩) l.length l :=
 (Kd.R_reads' (makeCol (base := 0) (ok := fun _ => True) (v := .slice (some ⟨b, 0, none⟩) l.length l.length) (fun _ _ => trivial) ⟨JI encCol_len l, .inr ⟨b, l.length, _, rfl, Nat.zero_le _, h, Nat.le_refl _, by unfold maxLen; omega, by rw [List.size_toArray, JI encCol_len], by rw [List.take_of_length_le (by rw [JI encCol_len]; exact Nat.le_refl _)]⟩⟩)).2.2
theorem val_lit (W : World) (b : Nat) (l : List Val) (h : W.heap[b]? = some (.cells (cellsOf JL l).toArray 27 (0, 0))) (hl : l.length ≤ 1000) : Kd.C k27 W (some ⟨b, 0, none⟩) l.length l :=
 (Kd.R_reads' (makeVal (base := 0) (ok := fun _ => True) (v := .slice (some ⟨b, 0, none⟩) l.length l.length) (fun _ _ => trivial) ⟨JI JK l, .inr ⟨b, l.length, _, rfl, Nat.zero_le _, h, Nat.le_refl _, by unfold maxLen; omega, by rw [List.size_toArray, JI JK], by rw [List.take_of_length_le (by rw [JI JK]; exact Nat.le_refl _)]⟩⟩)).2.2
theorem small_walk (w : World) (hG : Good w) : Calls Tryz.prog 9 #[] w fun e w' => e = .returned (.bool true) ∧ Below w.heap.size w w' := by
 have HG := JN hG
 have HB := JN (Below.refl w.heap.size w)
 have hu1 := Tryz.underlying29
 have hu2 := Tryz.underlying53
 have hu3 := Tryz.underlying27
 clear hG
 go_enter Tryz.func9, Tryz.ntmps9
 go_upto_region 2 with (fail)
 have CA : Jv (Kd.C k53 (w.alloc (.cells #[.string ⟨#[105, 100]⟩, .int .i64 0, .string ⟨#[]⟩, .string ⟨#[110, 97, 109, 101]⟩, .int .i64 1, .string ⟨#[]⟩] 53 (0, 0))) (some ⟨w.heap.size, 0, none⟩) 2 colsA) := ⟨col_lit _ _ colsA (heap_alloc_new w _) (by decide)⟩
 have HB' := JN (bl_alloc HB.out (Nat.le_refl _) (.cells #[.string ⟨#[105, 100]⟩, .int .i64 0, .string ⟨#[]⟩, .string ⟨#[110, 97, 109, 101]⟩, .int .i64 1, .string ⟨#[]⟩] 53 (0, 0))); clear HB; have HB := HB'; clear HB'
 obtain ⟨b1, hb1⟩ : ∃ b, b = w.heap.size := ⟨_, rfl⟩
 go_upto_region 3 with (go_at_call 13; refine (lens_Parse.calls textA _ _ _ (HG.out.below HB.out) parseA).mono ?_; rintro e w1 ⟨v, rfl, hr, hb⟩; have CA' := JN (Kd.C_below CA.out hb); clear CA; have CA := CA'; clear CA'; have HB' := JN (Below.trans HB.out (hb.mono HB.out.size)); clear HB; have HB := HB'; clear HB'; obtain ⟨Al, cl, ev⟩ := Kd.R_slice hr; subst ev; have LA := JN hr; clear hr; clear hb)
 go_upto_region 4 with (fail)
 have RA : Jv (Kd.C k27 (w1.alloc (.cells #[.int .i64 0, .int .i64 7, .string ⟨#[]⟩, .int .i64 1, .int .i64 0, .string ⟨#[65, 100, 97, 32, 76, 111, 118, 101, 108, 97, 99, 101, 32, 120]⟩] 27 (0, 0))) (some ⟨w1.heap.size, 0, none⟩) 2 rowA) := ⟨val_lit _ _ rowA (heap_alloc_new w1 _) (by decide)⟩
 have CA' := JN (Kd.C_alloc CA.out (.cells #[.int .i64 0, .int .i64 7, .string ⟨#[]⟩, .int .i64 1, .int .i64 0, .string ⟨#[65, 100, 97, 32, 76, 111, 118, 101, 108, 97, 99, 101, 32, 120]⟩] 27 (0, 0))); clear CA; have CA := CA'; clear CA'
 have LA' := JN (Kd.R_alloc LA.out (.cells #[.int .i64 0, .int .i64 7, .string ⟨#[]⟩, .int .i64 1, .int .i64 0, .string ⟨#[65, 100, 97, 32, 76, 111, 118, 101, 108, 97, 99, 101, 32, 120]⟩] 27 (0, 0))); clear LA; have LA := LA'; clear LA'
 have HB' := JN (bl_alloc HB.out HB.out.size (.cells #[.int .i64 0, .int .i64 7, .string ⟨#[]⟩, .int .i64 1, .int .i64 0, .string ⟨#[65, 100, 97, 32, 76, 111, 118, 101, 108, 97, 99, 101, 32, 120]⟩] 27 (0, 0))); clear HB; have HB := HB'; clear HB'
 go_upto_region 5 with (go_at_call 25; refine (lens_Forward.calls 10 _ _ [stepA] _ _ colsA _ _ rowA _ _ (HG.out.below HB.out) (Kd.R_reads' LA.out).2.2 (Kd.R_reads' LA.out).2.1 CA.out (Nat.le_refl _) RA.out (Nat.le_refl _) forwardA).mono ?_; rintro e w2 ⟨v, rfl, hr, hb⟩; have CA' := JN (Kd.C_below CA.out hb); clear CA; have CA := CA'; clear CA'; have LA' := JN (Kd.R_below LA.out hb); clear LA; have LA := LA'; clear LA'; have RA' := JN (Kd.C_below RA.out hb); clear RA; have RA := RA'; clear RA'; have HB' := JN (Below.trans HB.out (hb.mono HB.out.size)); clear HB; have HB := HB'; clear HB'; obtain ⟨Af, cf, ev⟩ := Kd.R_slice hr; subst ev; have FA := JN hr; clear hr; clear hb)
 go_upto_region 8 with (go_at_call 22; refine (lens_To.calls 10 _ _ [stepA] _ _ colsA _ _ _ (Kd.R_reads' LA.out).2.2 (Kd.R_reads' LA.out).2.1 CA.out (Nat.le_refl _) toA_is).mono ?_; rintro e w3 ⟨v, rfl, hr, hb⟩; have CA' := JN (Kd.C_below CA.out hb); clear CA; have CA := CA'; clear CA'; have LA' := JN (Kd.R_below LA.out hb); clear LA; have LA := LA'; clear LA'; have RA' := JN (Kd.C_below RA.out hb); clear RA; have RA := RA'; clear RA'; have FA' := JN (Kd.R_below FA.out hb); clear FA; have FA := FA'; clear FA'; have HB' := JN (Below.trans HB.out (hb.mono HB.out.size)); clear HB; have HB := HB'; clear HB'; obtain ⟨At, ct, ev⟩ := Kd.V_slice hr; subst ev; clear hr; clear hb)
 go_upto_region 9 with (go_at_call 30; refine (lens_Back.calls _ _ [stepA] _ _ colsA _ _ fA _ _ (HG.out.below HB.out) (Kd.R_reads' LA.out).2.2 (Kd.R_reads' LA.out).2.1 CA.out (Nat.le_refl _) (Kd.R_reads' FA.out).2.2 (Kd.R_reads' FA.out).2.1 backA).mono ?_; rintro e w4 ⟨v, rfl, hr, hb⟩; have CA' := JN (Kd.C_below CA.out hb); clear CA; have CA := CA'; clear CA'; have LA' := JN (Kd.R_below LA.out hb); clear LA; have LA := LA'; clear LA'; have RA' := JN (Kd.C_below RA.out hb); clear RA; have RA := RA'; clear RA'; have FA' := JN (Kd.R_below FA.out hb); clear FA; have FA := FA'; clear FA'; have HB' := JN (Below.trans HB.out (hb.mono HB.out.size)); clear HB; have HB := HB'; clear HB'; obtain ⟨Ab, cb, ev⟩ := Kd.R_slice hr; subst ev; have BA := JN hr; clear hr; clear hb)
 have RA2 : Jv (Kd.C k27 (w4.alloc (.cells #[.int .i64 0, .int .i64 7, .string ⟨#[]⟩, .int .i64 1, .int .i64 0, .string ⟨#[65, 100, 97, 32]⟩] 27 (0, 0))) (some ⟨w4.heap.size, 0, none⟩) 2 rowA2) := ⟨val_lit _ _ rowA2 (heap_alloc_new w4 _) (by decide)⟩
 go_upto_region 10 with (first
  | (go_at_call 25; refine (lens_Forward.calls 10 _ _ [stepA] _ _ colsA _ _ rowA2 _ _ (HG.out.below (bl_alloc HB.out HB.out.size (.cells #[.int .i64 0, .int .i64 7, .string ⟨#[]⟩, .int .i64 1, .int .i64 0, .string ⟨#[65, 100, 97, 32]⟩] 27 (0, 0)))) (Kd.R_reads' (Kd.R_alloc LA.out (.cells #[.int .i64 0, .int .i64 7, .string ⟨#[]⟩, .int .i64 1, .int .i64 0, .string ⟨#[65, 100, 97, 32]⟩] 27 (0, 0)))).2.2 (Kd.R_reads' LA.out).2.1 (Kd.C_alloc CA.out (.cells #[.int .i64 0, .int .i64 7, .string ⟨#[]⟩, .int .i64 1, .int .i64 0, .string ⟨#[65, 100, 97, 32]⟩] 27 (0, 0))) (Nat.le_refl _) RA2.out (Nat.le_refl _) forwardA2).mono ?_; rintro e w5 ⟨v, rfl, hr, hb⟩; have CA' := JN (Kd.C_below (Kd.C_alloc CA.out (.cells #[.int .i64 0, .int .i64 7, .string ⟨#[]⟩, .int .i64 1, .int .i64 0, .string ⟨#[65, 100, 97, 32]⟩] 27 (0, 0))) hb); clear CA; have CA := CA'; clear CA'; have LA' := JN (Kd.R_below (Kd.R_alloc LA.out (.cells #[.int .i64 0, .int .i64 7, .string ⟨#[]⟩, .int .i64 1, .int .i64 0, .string ⟨#[65, 100, 97, 32]⟩] 27 (0, 0))) hb); clear LA; have LA := LA'; clear LA'; have RA' := JN (Kd.C_below (Kd.C_alloc RA.out (.cells #[.int .i64 0, .int .i64 7, .string ⟨#[]⟩, .int .i64 1, .int .i64 0, .string ⟨#[65, 100, 97, 32]⟩] 27 (0, 0))) hb); clear RA; have RA := RA'; clear RA'; have FA' := JN (Kd.R_below (Kd.R_alloc FA.out (.cells #[.int .i64 0, .int .i64 7, .string ⟨#[]⟩, .int .i64 1, .int .i64 0, .string ⟨#[65, 100, 97, 32]⟩] 27 (0, 0))) hb); clear FA; have FA := FA'; clear FA'; have BA' := JN (Kd.R_below (Kd.R_alloc BA.out (.cells #[.int .i64 0, .int .i64 7, .string ⟨#[]⟩, .int .i64 1, .int .i64 0, .string ⟨#[65, 100, 97, 32]⟩] 27 (0, 0))) hb); clear BA; have BA := BA'; clear BA'; have RA2' := JN (Kd.C_below RA2.out hb); clear RA2; have RA2 := RA2'; clear RA2'; have HB' := JN (Below.trans (bl_alloc HB.out HB.out.size (.cells #[.int .i64 0, .int .i64 7, .string ⟨#[]⟩, .int .i64 1, .int .i64 0, .string ⟨#[65, 100, 97, 32]⟩] 27 (0, 0))) (hb.mono (Below.size (bl_alloc HB.out HB.out.size (.cells #[.int .i64 0, .int .i64 7, .string ⟨#[]⟩, .int .i64 1, .int .i64 0, .string ⟨#[65, 100, 97, 32]⟩] 27 (0, 0)))))); clear HB; have HB := HB'; clear HB'; obtain ⟨Af2, cf2, ev⟩ := Kd.R_slice hr; subst ev; have FA2 := JN hr; clear hr; clear hb)
  | (go_at_call 30; refine (lens_Back.calls _ _ [stepA] _ _ colsA _ _ fA2 _ _ (HG.out.below HB.out) (Kd.R_reads' LA.out).2.2 (Kd.R_reads' LA.out).2.1 CA.out (Nat.le_refl _) (Kd.R_reads' FA2.out).2.2 (Kd.R_reads' FA2.out).2.1 backA2).mono ?_; rintro e w6 ⟨v, rfl, hr, hb⟩; have CA' := JN (Kd.C_below CA.out hb); clear CA; have CA := CA'; clear CA'; have LA' := JN (Kd.R_below LA.out hb); clear LA; have LA := LA'; clear LA'; have RA' := JN (Kd.C_below RA.out hb); clear RA; have RA := RA'; clear RA'; have FA' := JN (Kd.R_below FA.out hb); clear FA; have FA := FA'; clear FA'; have BA' := JN (Kd.R_below BA.out hb); clear BA; have BA := BA'; clear BA'; have RA2' := JN (Kd.C_below RA2.out hb); clear RA2; have RA2 := RA2'; clear RA2'; have FA2' := JN (Kd.R_below FA2.out hb); clear FA2; have FA2 := FA2'; clear FA2'; have HB' := JN (Below.trans HB.out (hb.mono (Below.size HB.out))); clear HB; have HB := HB'; clear HB'; obtain ⟨Ag, cg, ev⟩ := Kd.R_slice hr; subst ev; have GA := JN hr; clear hr; clear hb))
 go_upto_region 11 with (go_at_call 13; refine (lens_Parse.calls textB _ _ _ (HG.out.below HB.out) parseB).mono ?_; rintro e w7 ⟨v, rfl, hr, hb⟩; have CA' := JN (Kd.C_below CA.out hb); clear CA; have CA := CA'; clear CA'; have LA' := JN (Kd.R_below LA.out hb); clear LA; have LA := LA'; clear LA'; have RA' := JN (Kd.C_below RA.out hb); clear RA; have RA := RA'; clear RA'; have FA' := JN (Kd.R_below FA.out hb); clear FA; have FA := FA'; clear FA'; have BA' := JN (Kd.R_below BA.out hb); clear BA; have BA := BA'; clear BA'; have RA2' := JN (Kd.C_below RA2.out hb); clear RA2; have RA2 := RA2'; clear RA2'; have FA2' := JN (Kd.R_below FA2.out hb); clear FA2; have FA2 := FA2'; clear FA2'; have GA' := JN (Kd.R_below GA.out hb); clear GA; have GA := GA'; clear GA'; have HB' := JN (Below.trans HB.out (hb.mono HB.out.size)); clear HB; have HB := HB'; clear HB'; obtain ⟨Al2, cl2, ev⟩ := Kd.R_slice hr; subst ev; have LB := JN hr; clear hr; clear hb)
 go_upto_region 12 with (fail)
 have CB : Jv (Kd.C k53 (w7.alloc (.cells #[.string ⟨#[119]⟩, .int .i64 0, .string ⟨#[107, 103]⟩] 53 (0, 0))) (some ⟨w7.heap.size, 0, none⟩) 1 colsB) := ⟨col_lit _ _ colsB (heap_alloc_new w7 _) (by decide)⟩
 have CA' := JN (Kd.C_alloc CA.out (.cells #[.string ⟨#[119]⟩, .int .i64 0, .string ⟨#[107, 103]⟩] 53 (0, 0))); clear CA; have CA := CA'; clear CA'
 have LA' := JN (Kd.R_alloc LA.out (.cells #[.string ⟨#[119]⟩, .int .i64 0, .string ⟨#[107, 103]⟩] 53 (0, 0))); clear LA; have LA := LA'; clear LA'
 have RA' := JN (Kd.C_alloc RA.out (.cells #[.string ⟨#[119]⟩, .int .i64 0, .string ⟨#[107, 103]⟩] 53 (0, 0))); clear RA; have RA := RA'; clear RA'
 have FA' := JN (Kd.R_alloc FA.out (.cells #[.string ⟨#[119]⟩, .int .i64 0, .string ⟨#[107, 103]⟩] 53 (0, 0))); clear FA; have FA := FA'; clear FA'
 have BA' := JN (Kd.R_alloc BA.out (.cells #[.string ⟨#[119]⟩, .int .i64 0, .string ⟨#[107, 103]⟩] 53 (0, 0))); clear BA; have BA := BA'; clear BA'
 have RA2' := JN (Kd.C_alloc RA2.out (.cells #[.string ⟨#[119]⟩, .int .i64 0, .string ⟨#[107, 103]⟩] 53 (0, 0))); clear RA2; have RA2 := RA2'; clear RA2'
 have FA2' := JN (Kd.R_alloc FA2.out (.cells #[.string ⟨#[119]⟩, .int .i64 0, .string ⟨#[107, 103]⟩] 53 (0, 0))); clear FA2; have FA2 := FA2'; clear FA2'
 have GA' := JN (Kd.R_alloc GA.out (.cells #[.string ⟨#[119]⟩, .int .i64 0, .string ⟨#[107, 103]⟩] 53 (0, 0))); clear GA; have GA := GA'; clear GA'
 have LB' := JN (Kd.R_alloc LB.out (.cells #[.string ⟨#[119]⟩, .int .i64 0, .string ⟨#[107, 103]⟩] 53 (0, 0))); clear LB; have LB := LB'; clear LB'
 have HB' := JN (bl_alloc HB.out HB.out.size (.cells #[.string ⟨#[119]⟩, .int .i64 0, .string ⟨#[107, 103]⟩] 53 (0, 0))); clear HB; have HB := HB'; clear HB'
 obtain ⟨w8, hw8⟩ : ∃ x, x = w7.alloc (.cells #[.string ⟨#[119]⟩, .int .i64 0, .string ⟨#[107, 103]⟩] 53 (0, 0)) := ⟨_, rfl⟩
 have hs8 : w7.heap.size < w8.heap.size := by rw [hw8]; simp
 rw [← hw8] at CA
 rw [← hw8] at LA
 rw [← hw8] at RA
 rw [← hw8] at FA
 rw [← hw8] at BA
 rw [← hw8] at RA2
 rw [← hw8] at FA2
 rw [← hw8] at GA
 rw [← hw8] at LB
 rw [← hw8] at CB
 rw [← hw8] at HB
 have R5 : Jv (Kd.C k27 (w8.alloc (.cells #[.int .i64 0, .int .i64 5, .string ⟨#[]⟩] 27 (0, 0))) (some ⟨w8.heap.size, 0, none⟩) 1 [⟨0, 5, ⟨#[]⟩⟩]) := ⟨val_lit _ _ [⟨0, 5, ⟨#[]⟩⟩] (heap_alloc_new w8 _) (by decide)⟩
 rw [← hw8]
 clear hw8
 go_upto_region 13 with (go_at_call 25; refine (lens_Forward.calls 10 _ _ [stepB] _ _ colsB _ _ [⟨0, 5, ⟨#[]⟩⟩] _ _ (HG.out.below (bl_alloc HB.out HB.out.size (.cells #[.int .i64 0, .int .i64 5, .string ⟨#[]⟩] 27 (0, 0)))) (Kd.R_reads' (Kd.R_alloc LB.out (.cells #[.int .i64 0, .int .i64 5, .string ⟨#[]⟩] 27 (0, 0)))).2.2 (Kd.R_reads' LB.out).2.1 (Kd.C_alloc CB.out (.cells #[.int .i64 0, .int .i64 5, .string ⟨#[]⟩] 27 (0, 0))) (Nat.le_refl _) R5.out (Nat.le_refl _) forwardB).mono ?_; rintro e w9 ⟨v, rfl, hr, hb⟩; have CA' := JN (Kd.C_below (Kd.C_alloc CA.out (.cells #[.int .i64 0, .int .i64 5, .string ⟨#[]⟩] 27 (0, 0))) hb); clear CA; have CA := CA'; clear CA'; have LA' := JN (Kd.R_below (Kd.R_alloc LA.out (.cells #[.int .i64 0, .int .i64 5, .string ⟨#[]⟩] 27 (0, 0))) hb); clear LA; have LA := LA'; clear LA'; have RA' := JN (Kd.C_below (Kd.C_alloc RA.out (.cells #[.int .i64 0, .int .i64 5, .string ⟨#[]⟩] 27 (0, 0))) hb); clear RA; have RA := RA'; clear RA'; have FA' := JN (Kd.R_below (Kd.R_alloc FA.out (.cells #[.int .i64 0, .int .i64 5, .string ⟨#[]⟩] 27 (0, 0))) hb); clear FA; have FA := FA'; clear FA'; have BA' := JN (Kd.R_below (Kd.R_alloc BA.out (.cells #[.int .i64 0, .int .i64 5, .string ⟨#[]⟩] 27 (0, 0))) hb); clear BA; have BA := BA'; clear BA'; have RA2' := JN (Kd.C_below (Kd.C_alloc RA2.out (.cells #[.int .i64 0, .int .i64 5, .string ⟨#[]⟩] 27 (0, 0))) hb); clear RA2; have RA2 := RA2'; clear RA2'; have FA2' := JN (Kd.R_below (Kd.R_alloc FA2.out (.cells #[.int .i64 0, .int .i64 5, .string ⟨#[]⟩] 27 (0, 0))) hb); clear FA2; have FA2 := FA2'; clear FA2'; have GA' := JN (Kd.R_below (Kd.R_alloc GA.out (.cells #[.int .i64 0, .int .i64 5, .string ⟨#[]⟩] 27 (0, 0))) hb); clear GA; have GA := GA'; clear GA'; have LB' := JN (Kd.R_below (Kd.R_alloc LB.out (.cells #[.int .i64 0, .int .i64 5, .string ⟨#[]⟩] 27 (0, 0))) hb); clear LB; have LB := LB'; clear LB'; have CB' := JN (Kd.C_below (Kd.C_alloc CB.out (.cells #[.int .i64 0, .int .i64 5, .string ⟨#[]⟩] 27 (0, 0))) hb); clear CB; have CB := CB'; clear CB'; have R5' := JN (Kd.C_below R5.out hb); clear R5; have R5 := R5'; clear R5'; have HB' := JN (Below.trans (bl_alloc HB.out HB.out.size (.cells #[.int .i64 0, .int .i64 5, .string ⟨#[]⟩] 27 (0, 0))) (hb.mono (Below.size (bl_alloc HB.out HB.out.size (.cells #[.int .i64 0, .int .i64 5, .string ⟨#[]⟩] 27 (0, 0)))))); clear HB; have HB := HB'; clear HB'; obtain ⟨Ah, ch, ev⟩ := Kd.R_slice hr; subst ev; have HA := JN hr; clear hr; clear hb)
 go_upto_region 16 with (go_at_call 27; refine (lens_Lossless.calls 10 _ _ [stepB] _ _ colsB _ _ _ _ (Kd.R_reads' LB.out).2.2 (Kd.R_reads' LB.out).2.1 CB.out (Nat.le_refl _) losslessB).mono ?_; rintro e w10 ⟨v, rfl, hr, hb⟩; have CA' := JN (Kd.C_below CA.out hb); clear CA; have CA := CA'; clear CA'; have LA' := JN (Kd.R_below LA.out hb); clear LA; have LA := LA'; clear LA'; have RA' := JN (Kd.C_below RA.out hb); clear RA; have RA := RA'; clear RA'; have FA' := JN (Kd.R_below FA.out hb); clear FA; have FA := FA'; clear FA'; have BA' := JN (Kd.R_below BA.out hb); clear BA; have BA := BA'; clear BA'; have RA2' := JN (Kd.C_below RA2.out hb); clear RA2; have RA2 := RA2'; clear RA2'; have FA2' := JN (Kd.R_below FA2.out hb); clear FA2; have FA2 := FA2'; clear FA2'; have GA' := JN (Kd.R_below GA.out hb); clear GA; have GA := GA'; clear GA'; have LB' := JN (Kd.R_below LB.out hb); clear LB; have LB := LB'; clear LB'; have CB' := JN (Kd.C_below CB.out hb); clear CB; have CB := CB'; clear CB'; have R5' := JN (Kd.C_below R5.out hb); clear R5; have R5 := R5'; clear R5'; have HA' := JN (Kd.R_below HA.out hb); clear HA; have HA := HA'; clear HA'; have HB' := JN (Below.trans HB.out (hb.mono (Below.size HB.out))); clear HB; have HB := HB'; clear HB'; obtain ⟨Ao, co, ev⟩ := Kd.R_slice hr; subst ev; have LO := JN hr; clear hr; clear hb)
 obtain ⟨gf, capf, ev, _, gfl, _⟩ := ownVal FA.out (by decide)
 injection ev with ev1 ev2 ev3
 subst ev1
 obtain ⟨gg, capg, ev, _, ggl, _⟩ := ownVal GA.out (by decide)
 injection ev with ev1 ev2 ev3
 subst ev1
 obtain ⟨gh, caph, ev, _, ghl, _⟩ := ownVal HA.out (by decide)
 injection ev with ev1 ev2 ev3
 subst ev1
 obtain ⟨gl, capl, ev, _, gll, _⟩ := ownVal LO.out (by decide)
 injection ev with ev1 ev2 ev3
 subst ev1
 have f1 : w10.cell? ⟨gf, 5, none⟩ = some (.string ⟨#[65, 100, 97]⟩) := (getVal FA.out rfl 1 (by decide) (by decide) 2 (by omega)).1
 have f2 : w10.cell? ⟨gf, 8, none⟩ = some (.string ⟨#[76, 111, 118, 101, 108, 97, 99, 101, 32, 120]⟩) := (getVal FA.out rfl 2 (by decide) (by decide) 2 (by omega)).1
 have g1 : w10.cell? ⟨gg, 5, none⟩ = some (.string ⟨#[65, 100, 97]⟩) := (getVal GA.out rfl 1 (by decide) (by decide) 2 (by omega)).1
 have h1 : w10.cell? ⟨gh, 1, none⟩ = some (.int .i64 5000) := (getVal HA.out rfl 0 (by decide) (by decide) 1 (by omega)).1
 have l1 : w10.cell? ⟨gl, 1, none⟩ = some (.int .i64 9223372036854775807) := (getVal LO.out rfl 0 (by decide) (by decide) 1 (by omega)).1
 go_wp2_with (go_at_call 29; refine (r03_Same.calls 10 _ _ rowA _ _ rowA true _ (Kd.R_reads' BA.out).2.2 (Kd.R_reads' BA.out).2.1 RA.out (Nat.le_refl _) sameA).mono ?_; rintro e w11 ⟨rfl, hb⟩; obtain ⟨hc, hf⟩ := bcell2 hb; have HB' := JN (Below.trans HB.out (hb.mono HB.out.size)); clear HB; have HB := HB'; clear HB' hb)
 go_ret
 exact ⟨rfl, HB.out⟩
def w14_small.f : Option Bool := some true
theorem w14_small.calls (r : Bool) (w : World) (hG : Good w) (h : w14_small.f = some r) : Calls Tryz.prog 9 #[] w fun e w' => e = .returned (.bool r) ∧ Below w.heap.size w w' := by
 obtain rfl := Option.some.inj h
 exact small_walk w hG
section
attribute [local go_sem] max2_int min2_int max_two min_two pw_string_gtr
def w14_LensFits.j0 : Nat → List (S29) → List (S53) → List (S27) → Bool → List (S53) → Bool → Option (Bool)
 | 0, _, _, _, _, _, _ => none
 | k + 1, x0, x1, x3, x9, x10, x65 => if x65 = true then (some false) else (if x9 = true then ((shape_Fits.f k x3 x10).bind fun t704 => (if t704 = true then ((lens_Back.f x0 x1 x3).bind fun t705 => ((shape_Fits.f k t705 x1).bind fun t708 => (some t708))) else (some true))) else (some false))
def w14_LensFits.f (k : Nat) (l0 : List (S29)) (l1 : List (S53)) (l2 : List (S27)) (l3 : List (S27)) : Option (Bool) := (w14_small.f).bind fun t675 => ((w14_suits.f k l0 l1 l2).bind fun t676 => (if t676 = true then ((lens_To.f k l0 l1).bind fun bt677 => ((shape_Right.f bt677.1).bind fun t681 => (if t681 = true then ((some (([] : List (S27)) : List (S27))).bind fun y682 => (if y682.length + l2.length < 4398046511104 then ((some (([] : List (S53)) : List (S53))).bind fun y688 => (if y688.length + l1.length < 3518437208883 then ((lens_Forward.f k l0 l1 l2).bind fun t694 => ((shape_Fits.f k t694 bt677.1).bind fun t697 => (if t697 = true then ((lens_Back.f l0 l1 t694).bind fun t698 => ((shape_Fits.f k t698 l1).bind fun t701 => (if t701 = true then ((r03_Same.f k l2 (y682 ++ l2)).bind fun t702 => (if t702 = true then ((r13_Same.f k l1 (y688 ++ l1)).bind fun t703 => (w14_LensFits.j0 k l0 l1 l3 t675 bt677.1 (!t703))) else (w14_LensFits.j0 k l0 l1 l3 t675 bt677.1 true))) else (w14_LensFits.j0 k l0 l1 l3 t675 bt677.1 true)))) else (w14_LensFits.j0 k l0 l1 l3 t675 bt677.1 true)))) else (none))) else (none))) else (some false)))) else (some t675)))
theorem w14_LensFits.calls (k : Nat) (A0 : Option Addr) (c0 : Nat) (l0 : List (S29)) (A1 : Option Addr) (c1 : Nat) (l1 : List (S53)) (A2 : Option Addr) (c2 : Nat) (l2 : List (S27)) (A3 : Option Addr) (c3 : Nat) (l3 : List (S27)) (r : Bool) (w : World) (hG : Good w) (hr0 : Kd.C k29 w A0 l0.length l0) (hc0 : l0.length ≤ c0) (hr1 : Kd.C k53 w A1 l1.length l1) (hc1 : l1.length ≤ c1) (hr2 : Kd.C k27 w A2 l2.length l2) (hc2 : l2.length ≤ c2) (hr3 : Kd.C k27 w A3 l3.length l3) (hc3 : l3.length ≤ c3) (h : w14_LensFits.f k l0 l1 l2 l3 = some r) :
  Calls Tryz.prog 5 #[.slice A0 l0.length c0, .slice A1 l1.length c1, .slice A2 l2.length c2, .slice A3 l3.length c3] w fun e w' => e = .returned (.bool r) ∧ Below w.heap.size w w' := by
 have HR0 := JN hr0
 have HC0 := JN hc0
 clear hr0 hc0
 have HR1 := JN hr1
 have HC1 := JN hc1
 clear hr1 hc1
 have HR2 := JN hr2
 have HC2 := JN hc2
 clear hr2 hc2
 have HR3 := JN hr3
 have HC3 := JN hc3
 clear hr3 hc3
 have HG := JN hG
 clear hG
 have HB := JN (Below.refl w.heap.size w)
 have H : ((w14_small.f).bind fun t675 => ((w14_suits.f k l0 l1 l2).bind fun t676 => (if t676 = true then ((lens_To.f k l0 l1).bind fun bt677 => ((shape_Right.f bt677.1).bind fun t681 => (if t681 = true then ((some (([] : List (S27)) : List (S27))).bind fun y682 => (if y682.length + l2.length < 4398046511104 then ((some (([] : List (S53)) : List (S53))).bind fun y688 => (if y688.length + l1.length < 3518437208883 then ((lens_Forward.f k l0 l1 l2).bind fun t694 => ((shape_Fits.f k t694 bt677.1).bind fun t697 => (if t697 = true then ((lens_Back.f l0 l1 t694).bind fun t698 => ((shape_Fits.f k t698 l1).bind fun t701 => (if t701 = true then ((r03_Same.f k l2 (y682 ++ l2)).bind fun t702 => (if t702 = true then ((r13_Same.f k l1 (y688 ++ l1)).bind fun t703 => (w14_LensFits.j0 k l0 l1 l3 t675 bt677.1 (!t703))) else (w14_LensFits.j0 k l0 l1 l3 t675 bt677.1 true))) else (w14_LensFits.j0 k l0 l1 l3 t675 bt677.1 true)))) else (w14_LensFits.j0 k l0 l1 l3 t675 bt677.1 true)))) else (none))) else (none))) else (some false)))) else (some t675)))) = some r := h
 clear h
 replace H := Option.bind_eq_some_iff.mp H
 obtain ⟨t675, A50, H⟩ := H
 replace H : ((w14_suits.f k l0 l1 l2).bind fun t676 => (if t676 = true then ((lens_To.f k l0 l1).bind fun bt677 => ((shape_Right.f bt677.1).bind fun t681 => (if t681 = true then ((some (([] : List (S27)) : List (S27))).bind fun y682 => (if y682.length + l2.length < 4398046511104 then ((some (([] : List (S53)) : List (S53))).bind fun y688 => (if y688.length + l1.length < 3518437208883 then ((lens_Forward.f k l0 l1 l2).bind fun t694 => ((shape_Fits.f k t694 bt677.1).bind fun t697 => (if t697 = true then ((lens_Back.f l0 l1 t694).bind fun t698 => ((shape_Fits.f k t698 l1).bind fun t701 => (if t701 = true then ((r03_Same.f k l2 (y682 ++ l2)).bind fun t702 => (if t702 = true then ((r13_Same.f k l1 (y688 ++ l1)).bind fun t703 => (w14_LensFits.j0 k l0 l1 l3 t675 bt677.1 (!t703))) else (w14_LensFits.j0 k l0 l1 l3 t675 bt677.1 true))) else (w14_LensFits.j0 k l0 l1 l3 t675 bt677.1 true)))) else (w14_LensFits.j0 k l0 l1 l3 t675 bt677.1 true)))) else (none))) else (none))) else (some false)))) else (some t675))) = some r := H
 have A5 := JN A50
 clear A50
 replace H := Option.bind_eq_some_iff.mp H
 obtain ⟨t676, A60, H⟩ := H
 replace H : (if t676 = true then ((lens_To.f k l0 l1).bind fun bt677 => ((shape_Right.f bt677.1).bind fun t681 => (if t681 = true then ((some (([] : List (S27)) : List (S27))).bind fun y682 => (if y682.length + l2.length < 4398046511104 then ((some (([] : List (S53)) : List (S53))).bind fun y688 => (if y688.length + l1.length < 3518437208883 then ((lens_Forward.f k l0 l1 l2).bind fun t694 => ((shape_Fits.f k t694 bt677.1).bind fun t697 => (if t697 = true then ((lens_Back.f l0 l1 t694).bind fun t698 => ((shape_Fits.f k t698 l1).bind fun t701 => (if t701 = true then ((r03_Same.f k l2 (y682 ++ l2)).bind fun t702 => (if t702 = true then ((r13_Same.f k l1 (y688 ++ l1)).bind fun t703 => (w14_LensFits.j0 k l0 l1 l3 t675 bt677.1 (!t703))) else (w14_LensFits.j0 k l0 l1 l3 t675 bt677.1 true))) else (w14_LensFits.j0 k l0 l1 l3 t675 bt677.1 true)))) else (w14_LensFits.j0 k l0 l1 l3 t675 bt677.1 true)))) else (none))) else (none))) else (some false)))) else (some t675)) = some r := H
 have A6 := JN A60
 clear A60
 by_cases c7 : t676 = true
 ·
  subst c7
  have H1 : ((lens_To.f k l0 l1).bind fun bt677 => ((shape_Right.f bt677.1).bind fun t681 => (if t681 = true then ((some (([] : List (S27)) : List (S27))).bind fun y682 => (if y682.length + l2.length < 4398046511104 then ((some (([] : List (S53)) : List (S53))).bind fun y688 => (if y688.length + l1.length < 3518437208883 then ((lens_Forward.f k l0 l1 l2).bind fun t694 => ((shape_Fits.f k t694 bt677.1).bind fun t697 => (if t697 = true then ((lens_Back.f l0 l1 t694).bind fun t698 => ((shape_Fits.f k t698 l1).bind fun t701 => (if t701 = true then ((r03_Same.f k l2 (y682 ++ l2)).bind fun t702 => (if t702 = true then ((r13_Same.f k l1 (y688 ++ l1)).bind fun t703 => (w14_LensFits.j0 k l0 l1 l3 t675 bt677.1 (!t703))) else (w14_LensFits.j0 k l0 l1 l3 t675 bt677.1 true))) else (w14_LensFits.j0 k l0 l1 l3 t675 bt677.1 true)))) else (w14_LensFits.j0 k l0 l1 l3 t675 bt677.1 true)))) else (none))) else (none))) else (some false)))) = some r := by rw [if_pos rfl] at H; exact H
  clear H
  have H := H1
  clear H1
  replace H := Option.bind_eq_some_iff.mp H
  obtain ⟨⟨t677, t680⟩, A80, H⟩ := H
  replace H : ((shape_Right.f t677).bind fun t681 => (if t681 = true then ((some (([] : List (S27)) : List (S27))).bind fun y682 => (if y682.length + l2.length < 4398046511104 then ((some (([] : List (S53)) : List (S53))).bind fun y688 => (if y688.length + l1.length < 3518437208883 then ((lens_Forward.f k l0 l1 l2).bind fun t694 => ((shape_Fits.f k t694 t677).bind fun t697 => (if t697 = true then ((lens_Back.f l0 l1 t694).bind fun t698 => ((shape_Fits.f k t698 l1).bind fun t701 => (if t701 = true then ((r03_Same.f k l2 (y682 ++ l2)).bind fun t702 => (if t702 = true then ((r13_Same.f k l1 (y688 ++ l1)).bind fun t703 => (w14_LensFits.j0 k l0 l1 l3 t675 t677 (!t703))) else (w14_LensFits.j0 k l0 l1 l3 t675 t677 true))) else (w14_LensFits.j0 k l0 l1 l3 t675 t677 true)))) else (w14_LensFits.j0 k l0 l1 l3 t675 t677 true)))) else (none))) else (none))) else (some false))) = some r := H
  have A8 := JN A80
  clear A80
  replace H := Option.bind_eq_some_iff.mp H
  obtain ⟨t681, A90, H⟩ := H
  replace H : (if t681 = true then ((some (([] : List (S27)) : List (S27))).bind fun y682 => (if y682.length + l2.length < 4398046511104 then ((some (([] : List (S53)) : List (S53))).bind fun y688 => (if y688.length + l1.length < 3518437208883 then ((lens_Forward.f k l0 l1 l2).bind fun t694 => ((shape_Fits.f k t694 t677).bind fun t697 => (if t697 = true then ((lens_Back.f l0 l1 t694).bind fun t698 => ((shape_Fits.f k t698 l1).bind fun t701 => (if t701 = true then ((r03_Same.f k l2 (y682 ++ l2)).bind fun t702 => (if t702 = true then ((r13_Same.f k l1 (y688 ++ l1)).bind fun t703 => (w14_LensFits.j0 k l0 l1 l3 t675 t677 (!t703))) else (w14_LensFits.j0 k l0 l1 l3 t675 t677 true))) else (w14_LensFits.j0 k l0 l1 l3 t675 t677 true)))) else (w14_LensFits.j0 k l0 l1 l3 t675 t677 true)))) else (none))) else (none))) else (some false)) = some r := H
  have A9 := JN A90
  clear A90
  by_cases c10 : t681 = true
  ·
   subst c10
   have H1 : ((some (([] : List (S27)) : List (S27))).bind fun y682 => (if y682.length + l2.length < 4398046511104 then ((some (([] : List (S53)) : List (S53))).bind fun y688 => (if y688.length + l1.length < 3518437208883 then ((lens_Forward.f k l0 l1 l2).bind fun t694 => ((shape_Fits.f k t694 t677).bind fun t697 => (if t697 = true then ((lens_Back.f l0 l1 t694).bind fun t698 => ((shape_Fits.f k t698 l1).bind fun t701 => (if t701 = true then ((r03_Same.f k l2 (y682 ++ l2)).bind fun t702 => (if t702 = true then ((r13_Same.f k l1 (y688 ++ l1)).bind fun t703 => (w14_LensFits.j0 k l0 l1 l3 t675 t677 (!t703))) else (w14_LensFits.j0 k l0 l1 l3 t675 t677 true))) else (w14_LensFits.j0 k l0 l1 l3 t675 t677 true)))) else (w14_LensFits.j0 k l0 l1 l3 t675 t677 true)))) else (none))) else (none))) = some r := by rw [if_pos rfl] at H; exact H
   clear H
   have H := H1
   clear H1
   obtain ⟨y682, hy682⟩ : ∃ y_ : List (S27), y_ = (([] : List (S27))) := ⟨_, rfl⟩
   replace H : (if y682.length + l2.length < 4398046511104 then ((some (([] : List (S53)) : List (S53))).bind fun y688 => (if y688.length + l1.length < 3518437208883 then ((lens_Forward.f k l0 l1 l2).bind fun t694 => ((shape_Fits.f k t694 t677).bind fun t697 => (if t697 = true then ((lens_Back.f l0 l1 t694).bind fun t698 => ((shape_Fits.f k t698 l1).bind fun t701 => (if t701 = true then ((r03_Same.f k l2 (y682 ++ l2)).bind fun t702 => (if t702 = true then ((r13_Same.f k l1 (y688 ++ l1)).bind fun t703 => (w14_LensFits.j0 k l0 l1 l3 t675 t677 (!t703))) else (w14_LensFits.j0 k l0 l1 l3 t675 t677 true))) else (w14_LensFits.j0 k l0 l1 l3 t675 t677 true)))) else (w14_LensFits.j0 k l0 l1 l3 t675 t677 true)))) else (none))) else (none)) = some r := by first | (rw [hy682]; with_reducible exact H) | (have H2_ := (Option.bind_some _ _).symm.trans H; rw [hy682]; with_reducible exact H2_) | (have H2_ := (Option.bind_some _ _).symm.trans H; with_reducible exact H2_) | with_reducible exact H | (rw [hy682]; exact H) | exact H
   have Ny682 := JN hy682
   clear hy682
   by_cases c11 : y682.length + l2.length < 4398046511104
   ·
    rw [if_pos c11] at H
    have LMc11 := JN c11
    clear c11
    obtain ⟨y685, hy685⟩ : ∃ y_ : List (S27), y_ = (y682 ++ l2) := ⟨_, rfl⟩
    replace H : ((some (([] : List (S53)) : List (S53))).bind fun y688 => (if y688.length + l1.length < 3518437208883 then ((lens_Forward.f k l0 l1 l2).bind fun t694 => ((shape_Fits.f k t694 t677).bind fun t697 => (if t697 = true then ((lens_Back.f l0 l1 t694).bind fun t698 => ((shape_Fits.f k t698 l1).bind fun t701 => (if t701 = true then ((r03_Same.f k l2 y685).bind fun t702 => (if t702 = true then ((r13_Same.f k l1 (y688 ++ l1)).bind fun t703 => (w14_LensFits.j0 k l0 l1 l3 t675 t677 (!t703))) else (w14_LensFits.j0 k l0 l1 l3 t675 t677 true))) else (w14_LensFits.j0 k l0 l1 l3 t675 t677 true)))) else (w14_LensFits.j0 k l0 l1 l3 t675 t677 true)))) else (none))) = some r := by first | (rw [hy685]; with_reducible exact H) | (have H2_ := (Option.bind_some _ _).symm.trans H; rw [hy685]; with_reducible exact H2_) | (have H2_ := (Option.bind_some _ _).symm.trans H; with_reducible exact H2_) | with_reducible exact H | (rw [hy685]; exact H) | exact H
    have Ny685 := JN hy685
    clear hy685
    obtain ⟨y688, hy688⟩ : ∃ y_ : List (S53), y_ = (([] : List (S53))) := ⟨_, rfl⟩
    replace H : (if y688.length + l1.length < 3518437208883 then ((lens_Forward.f k l0 l1 l2).bind fun t694 => ((shape_Fits.f k t694 t677).bind fun t697 => (if t697 = true then ((lens_Back.f l0 l1 t694).bind fun t698 => ((shape_Fits.f k t698 l1).bind fun t701 => (if t701 = true then ((r03_Same.f k l2 y685).bind fun t702 => (if t702 = true then ((r13_Same.f k l1 (y688 ++ l1)).bind fun t703 => (w14_LensFits.j0 k l0 l1 l3 t675 t677 (!t703))) else (w14_LensFits.j0 k l0 l1 l3 t675 t677 true))) else (w14_LensFits.j0 k l0 l1 l3 t675 t677 true)))) else (w14_LensFits.j0 k l0 l1 l3 t675 t677 true)))) else (none)) = some r := by first | (rw [hy688]; with_reducible exact H) | (have H2_ := (Option.bind_some _ _).symm.trans H; rw [hy688]; with_reducible exact H2_) | (have H2_ := (Option.bind_some _ _).symm.trans H; with_reducible exact H2_) | with_reducible exact H | (rw [hy688]; exact H) | exact H
    have Ny688 := JN hy688
    clear hy688
    by_cases c12 : y688.length + l1.length < 3518437208883
    ·
     rw [if_pos c12] at H
     have LMc12 := JN c12
     clear c12
     obtain ⟨y691, hy691⟩ : ∃ y_ : List (S53), y_ = (y688 ++ l1) := ⟨_, rfl⟩
     replace H : ((lens_Forward.f k l0 l1 l2).bind fun t694 => ((shape_Fits.f k t694 t677).bind fun t697 => (if t697 = true then ((lens_Back.f l0 l1 t694).bind fun t698 => ((shape_Fits.f k t698 l1).bind fun t701 => (if t701 = true then ((r03_Same.f k l2 y685).bind fun t702 => (if t702 = true then ((r13_Same.f k l1 y691).bind fun t703 => (w14_LensFits.j0 k l0 l1 l3 t675 t677 (!t703))) else (w14_LensFits.j0 k l0 l1 l3 t675 t677 true))) else (w14_LensFits.j0 k l0 l1 l3 t675 t677 true)))) else (w14_LensFits.j0 k l0 l1 l3 t675 t677 true)))) = some r := by first | (rw [hy691]; with_reducible exact H) | (have H2_ := (Option.bind_some _ _).symm.trans H; rw [hy691]; with_reducible exact H2_) | (have H2_ := (Option.bind_some _ _).symm.trans H; with_reducible exact H2_) | with_reducible exact H | (rw [hy691]; exact H) | exact H
     have Ny691 := JN hy691
     clear hy691
     replace H := Option.bind_eq_some_iff.mp H
     obtain ⟨t694, A130, H⟩ := H
     replace H : ((shape_Fits.f k t694 t677).bind fun t697 => (if t697 = true then ((lens_Back.f l0 l1 t694).bind fun t698 => ((shape_Fits.f k t698 l1).bind fun t701 => (if t701 = true then ((r03_Same.f k l2 y685).bind fun t702 => (if t702 = true then ((r13_Same.f k l1 y691).bind fun t703 => (w14_LensFits.j0 k l0 l1 l3 t675 t677 (!t703))) else (w14_LensFits.j0 k l0 l1 l3 t675 t677 true))) else (w14_LensFits.j0 k l0 l1 l3 t675 t677 true)))) else (w14_LensFits.j0 k l0 l1 l3 t675 t677 true))) = some r := H
     have A13 := JN A130
     clear A130
     have HC14 := JN H
     clear H
     go_enter Tryz.func5, Tryz.ntmps5
     go_upto_region 10 with (first | ((with_reducible refine JM (f := 9) rfl ?_); refine goesL_ (some 15) rfl rfl Tryz.func9 (Kg) rfl #[] rfl (Ke) ?_; (with_reducible refine (w14_small.calls  t675 _ ?side1 A5.out).mono ?_); (case side1 => exact Good.below HG.out (Ka)); rintro e w15 ⟨rfl, hb⟩; refine ⟨_, rfl, ?_⟩; have n0_ := JN (JB (Ka) hb); clear HB; have HB := n0_; clear n0_; (try clear hb); (try clear hb2); (try clear hk); (try clear hi)) | ((with_reducible refine JM (f := 32) rfl ?_); refine goesL_ (some 19) rfl rfl Tryz.func32 (Kg) rfl #[.slice A0 l0.length c0, .slice A1 l1.length c1, .slice A2 l2.length c2] rfl (Ke) ?_; (with_reducible refine (w14_suits.calls k _ _ l0 _ _ l1 _ _ l2 true _ ?side1 ?side2 ?side3 ?side4 ?side5 ?side6 A6.out).mono ?_); (case side1 => repeat (first | exact (Kd.C_below HR0.out HB.out) | (with_reducible refine Kd.C_alloc ?_ _) | (with_reducible refine Kd.C_drewN ?_ _) | (with_reducible refine Kd.C_drew ?_))); (case side2 => exact HC0.out); (case side3 => repeat (first | exact (Kd.C_below HR1.out HB.out) | (with_reducible refine Kd.C_alloc ?_ _) | (with_reducible refine Kd.C_drewN ?_ _) | (with_reducible refine Kd.C_drew ?_))); (case side4 => exact HC1.out); (case side5 => repeat (first | exact (Kd.C_below HR2.out HB.out) | (with_reducible refine Kd.C_alloc ?_ _) | (with_reducible refine Kd.C_drewN ?_ _) | (with_reducible refine Kd.C_drew ?_))); (case side6 => exact HC2.out); rintro e w16 ⟨rfl, hb⟩; refine ⟨_, rfl, ?_⟩; have n0_ := JN (JB (Ka) hb); clear HB; have HB := n0_; clear n0_; (try clear hb); (try clear hb2); (try clear hk); (try clear hi)) | ((with_reducible refine JM (f := 22) rfl ?_); refine goesL_ (some 25) rfl rfl Tryz.func22 (Kg) rfl #[.slice A0 l0.length c0, .slice A1 l1.length c1] rfl (Ke) ?_; (with_reducible refine (lens_To.calls k _ _ l0 _ _ l1 t677 t680 _ ?side1 ?side2 ?side3 ?side4 A8.out).mono ?_); (case side1 => repeat (first | exact (Kd.C_below HR0.out HB.out) | (with_reducible refine Kd.C_alloc ?_ _) | (with_reducible refine Kd.C_drewN ?_ _) | (with_reducible refine Kd.C_drew ?_))); (case side2 => exact HC0.out); (case side3 => repeat (first | exact (Kd.C_below HR1.out HB.out) | (with_reducible refine Kd.C_alloc ?_ _) | (with_reducible refine Kd.C_drewN ?_ _) | (with_reducible refine Kd.C_drew ?_))); (case side4 => exact HC1.out); rintro e w17 ⟨v678, rfl, ho0, hb⟩; refine ⟨_, rfl, ?_⟩; have n0_ := JN (Kd.V_lower (Kd.V_mono (ok' := fun k_ => True) ho0 (fun k_ hk_ => trivial)) (below_size (Ka))); have n1_ := JN (JB (Ka) hb); clear HB; have HO679 := n0_; have HB := n1_; clear n0_ n1_; (try clear hb); (try clear hb2); (try clear hk); (try clear hi); (try clear ho0); obtain ⟨Ao18, co18, eo18⟩ := Kd.V_slice HO679.out; subst eo18) | ((with_reducible refine JM (f := 17) rfl ?_); refine goesL_ (some 29) rfl rfl Tryz.func17 (Kg) rfl #[.slice Ao18 t677.length co18] rfl (Ke) ?_; (with_reducible refine (shape_Right.calls _ _ t677 true _ ?side1 ?side2 A9.out).mono ?_); (case side1 => repeat (first | exact (Kd.V_reads' HO679.out).2.2 | (with_reducible refine Kd.C_alloc ?_ _) | (with_reducible refine Kd.C_drewN ?_ _) | (with_reducible refine Kd.C_drew ?_))); (case side2 => exact (Kd.V_reads' HO679.out).2.1); rintro e w19 ⟨rfl, hb⟩; refine ⟨_, rfl, ?_⟩; have n0_ := JN (Kd.V_below (Ku) hb); have n1_ := JN (JB (Ka) hb); clear HO679; clear HB; have HO679 := n0_; have HB := n1_; clear n0_ n1_; (try clear hb); (try clear hb2); (try clear hk); (try clear hi)) | ((with_reducible refine gate_dst (N := 31) rfl ?_); refine Kd.R_lit k27 _ 27 ?hg (N := 31) ?hd (xs := ([] : List (S27))) (inner := []) (ok := fun _ => True) (okp := fun _ => True) ?hr ?hp (fun _ hk => hk) trivial (Below.refl _ _) (Nat.le_refl _) (by simp) ?_; (case hd => rfl); (case hg => rfl); (case hr => first | (go_simp; done) | (go_simp; rfl)); (case hp => exact (Reps.none _ _)); intro v683 w20 ho21 hb hg_ hnew_; clear hg_ hnew_; (first | rw [← Ny682.out] at ho21 | (simp only [Int.reduceToNat] at ho21; rw [← Ny682.out] at ho21)); have n0_ := JN (Kd.V_elder' (Ku) (Kd.R_base ho21) hb); have n1_ := JN (Kd.R_lower ho21 (below_size (Ka))); have n2_ := JN (JB (Ka) hb); clear HO679; clear HB; have HO679 := n0_; have HO684 := n1_; have HB := n2_; clear n0_ n1_ n2_; clear hb ho21) | ((with_reducible refine gate_builtin (b := .append) (xs := #[.tmp 31, .tmp 32]) rfl ?_); at_builtin; refine Kd.R_append_rows k27 (w0 := w) w.heap.size rfl (.tmp 31) (.tmp 32) 36 27 (.agg #[(.int .i64 0), (.int .i64 0), (.string ⟨#[]⟩)]) 32 rfl Tryz.underlying36 info27 rfl (by decide) (by omega) v683 y682 l2 _ _ _ (fun _ => True) (fun _ => False) rfl rfl ?aO ?aR (fun _ _ h => h) (fun _ h => h.elim) ?aF ?aB ?aS ?aL ?_; (case aR => repeat (first | exact (Kd.C_below HR2.out HB.out) | (with_reducible refine Kd.C_alloc ?_ _) | (with_reducible refine Kd.C_drewN ?_ _) | (with_reducible refine Kd.C_drew ?_))); (case aB => exact (Ka)); (case aF => exact (fun _ _ => trivial)); (case aO => exact (by (with_reducible repeat (first | apply Kd.R_alloc | apply Kd.R_drewN | apply Kd.R_drew)); exact HO684.out)); (case aS => exact (below_size (Ka))); (case aL => have := LMc11.out; omega); intro v686 w22 ho hb hg hat; rw [← Ny685.out] at ho; have n0_ := JN (Kd.V_afterv (ok := (fun _ => True)) (Ku) hg hat); have n1_ := JN (hb); have n2_ := JN (ho); clear HO679; clear HB; clear HO684; have HO679 := n0_; have HB := n1_; have HO687 := n2_; clear n0_ n1_ n2_; clear ho hb hg hat) | ((with_reducible refine gate_dst (N := 34) rfl ?_); refine Kd.R_lit k53 _ 53 ?hg (N := 34) ?hd (xs := ([] : List (S53))) (inner := []) (ok := fun _ => True) (okp := fun _ => True) ?hr ?hp (fun _ hk => hk) trivial (Below.refl _ _) (Nat.le_refl _) (by simp) ?_; (case hd => rfl); (case hg => rfl); (case hr => first | (go_simp; done) | (go_simp; rfl)); (case hp => exact (Reps.none _ _)); intro v689 w23 ho24 hb hg_ hnew_; clear hg_ hnew_; (first | rw [← Ny688.out] at ho24 | (simp only [Int.reduceToNat] at ho24; rw [← Ny688.out] at ho24)); have n0_ := JN (Kd.V_elder' (Ku) (Kd.R_base ho24) hb); have n1_ := JN (Kd.R_below (Kt) hb); have n2_ := JN (Kd.R_lower ho24 (below_size (Ka))); have n3_ := JN (JB (Ka) hb); clear HO679; clear HO687; clear HB; have HO679 := n0_; have HO687 := n1_; have HO690 := n2_; have HB := n3_; clear n0_ n1_ n2_ n3_; clear hb ho24) | ((with_reducible refine gate_builtin (b := .append) (xs := #[.tmp 34, .tmp 35]) rfl ?_); at_builtin; refine Kd.R_append_rows k53 (w0 := w) w.heap.size rfl (.tmp 34) (.tmp 35) 35 53 (.agg #[(.string ⟨#[]⟩), (.int .i64 0), (.string ⟨#[]⟩)]) 40 rfl Tryz.underlying35 info53 rfl (by decide) (by omega) v689 y688 l1 _ _ _ (fun _ => True) (fun _ => False) rfl rfl ?aO ?aR (fun _ _ h => h) (fun _ h => h.elim) ?aF ?aB ?aS ?aL ?_; (case aR => repeat (first | exact (Kd.C_below HR1.out HB.out) | (with_reducible refine Kd.C_alloc ?_ _) | (with_reducible refine Kd.C_drewN ?_ _) | (with_reducible refine Kd.C_drew ?_))); (case aB => exact (Ka)); (case aF => exact (fun _ _ => trivial)); (case aO => exact (by (with_reducible repeat (first | apply Kd.R_alloc | apply Kd.R_drewN | apply Kd.R_drew)); exact HO690.out)); (case aS => exact (below_size (Ka))); (case aL => have := LMc12.out; omega); intro v692 w25 ho hb hg hat; rw [← Ny691.out] at ho; have n0_ := JN (Kd.V_afterv (ok := (fun k_ => some k_ ≠ (v686 : Value).ownBlock)) (by (with_reducible repeat (first | apply Kd.V_alloc | apply Kd.V_drewN | apply Kd.V_drew)); exact Kd.V_mono HO679.out (fun _ hk => ⟨hk.1.2, hk.2⟩)) hg hat); have n1_ := JN (Kd.R_over' (Kt) (Kd.R_typed (by (with_reducible repeat (first | apply Kd.R_alloc | apply Kd.R_drewN | apply Kd.R_drew)); exact HO690.out)) (by decide) hg); have n2_ := JN (hb); have n3_ := JN (ho); clear HO679; clear HO687; clear HB; clear HO690; have HO679 := n0_; have HO687 := n1_; have HB := n2_; have HO693 := n3_; clear n0_ n1_ n2_ n3_; clear ho hb hg hat) | ((with_reducible refine JM (f := 25) rfl ?_); refine goesL_ (some 40) rfl rfl Tryz.func25 (Kg) rfl #[.slice A0 l0.length c0, .slice A1 l1.length c1, .slice A2 l2.length c2] rfl (Ke) ?_; (with_reducible refine (lens_Forward.calls k _ _ l0 _ _ l1 _ _ l2 t694 _ ?side1 ?side2 ?side3 ?side4 ?side5 ?side6 ?side7 A13.out).mono ?_); (case side1 => exact Good.below HG.out (Ka)); (case side2 => repeat (first | exact (Kd.C_below HR0.out HB.out) | (with_reducible refine Kd.C_alloc ?_ _) | (with_reducible refine Kd.C_drewN ?_ _) | (with_reducible refine Kd.C_drew ?_))); (case side3 => exact HC0.out); (case side4 => repeat (first | exact (Kd.C_below HR1.out HB.out) | (with_reducible refine Kd.C_alloc ?_ _) | (with_reducible refine Kd.C_drewN ?_ _) | (with_reducible refine Kd.C_drew ?_))); (case side5 => exact HC1.out); (case side6 => repeat (first | exact (Kd.C_below HR2.out HB.out) | (with_reducible refine Kd.C_alloc ?_ _) | (with_reducible refine Kd.C_drewN ?_ _) | (with_reducible refine Kd.C_drew ?_))); (case side7 => exact HC2.out); rintro e w26 ⟨v695, rfl, ho0, hb⟩; refine ⟨_, rfl, ?_⟩; have n0_ := JN (Kd.V_elder' (Ku) (Kd.R_base ho0) hb); have n1_ := JN (Kd.R_elder' (Kt) (Kd.R_base ho0) hb); have n2_ := JN (Kd.R_below (Ky) hb); have n3_ := JN (Kd.R_lower (Kd.R_new' ho0 (Kd.R_lt (Kt))) (below_size (Ka))); have n4_ := JN (JB (Ka) hb); clear HO679; clear HO687; clear HO693; clear HB; have HO679 := n0_; have HO687 := n1_; have HO693 := n2_; have HO696 := n3_; have HB := n4_; clear n0_ n1_ n2_ n3_ n4_; (try clear hb); (try clear hb2); (try clear hk); (try clear hi); (try clear ho0)))
     (try simp only [Act.put, List.setIfInBounds_toArray, List.set_cons_zero, List.set_cons_succ])
     go_cut [65] (fun v65 wc => ∃ (kq : Nat) (x65_13 : Bool), v65 = .bool x65_13 ∧ Jv (w14_LensFits.j0 kq l0 l1 l3 t675 t677 x65_13 = some r) ∧ Jv (kq ≤ k) ∧ Jv (Kd.V k53 53 wc w.heap.size (fun _ => True) (.slice Ao18 t677.length co18) t677) ∧ Jv (Below w.heap.size w wc))
     case first =>
      have H := HC14.out
      clear HC14
      replace H := Option.bind_eq_some_iff.mp H
      obtain ⟨t697, A270, H⟩ := H
      replace H : (if t697 = true then ((lens_Back.f l0 l1 t694).bind fun t698 => ((shape_Fits.f k t698 l1).bind fun t701 => (if t701 = true then ((r03_Same.f k l2 y685).bind fun t702 => (if t702 = true then ((r13_Same.f k l1 y691).bind fun t703 => (w14_LensFits.j0 k l0 l1 l3 t675 t677 (!t703))) else (w14_LensFits.j0 k l0 l1 l3 t675 t677 true))) else (w14_LensFits.j0 k l0 l1 l3 t675 t677 true)))) else (w14_LensFits.j0 k l0 l1 l3 t675 t677 true)) = some r := H
      have A27 := JN A270
      clear A270
      by_cases c28 : t697 = true
      ·
       subst c28
       have H1 : ((lens_Back.f l0 l1 t694).bind fun t698 => ((shape_Fits.f k t698 l1).bind fun t701 => (if t701 = true then ((r03_Same.f k l2 y685).bind fun t702 => (if t702 = true then ((r13_Same.f k l1 y691).bind fun t703 => (w14_LensFits.j0 k l0 l1 l3 t675 t677 (!t703))) else (w14_LensFits.j0 k l0 l1 l3 t675 t677 true))) else (w14_LensFits.j0 k l0 l1 l3 t675 t677 true)))) = some r := by rw [if_pos rfl] at H; exact H
       clear H
       have H := H1
       clear H1
       replace H := Option.bind_eq_some_iff.mp H
       obtain ⟨t698, A290, H⟩ := H
       replace H : ((shape_Fits.f k t698 l1).bind fun t701 => (if t701 = true then ((r03_Same.f k l2 y685).bind fun t702 => (if t702 = true then ((r13_Same.f k l1 y691).bind fun t703 => (w14_LensFits.j0 k l0 l1 l3 t675 t677 (!t703))) else (w14_LensFits.j0 k l0 l1 l3 t675 t677 true))) else (w14_LensFits.j0 k l0 l1 l3 t675 t677 true))) = some r := H
       have A29 := JN A290
       clear A290
       replace H := Option.bind_eq_some_iff.mp H
       obtain ⟨t701, A300, H⟩ := H
       replace H : (if t701 = true then ((r03_Same.f k l2 y685).bind fun t702 => (if t702 = true then ((r13_Same.f k l1 y691).bind fun t703 => (w14_LensFits.j0 k l0 l1 l3 t675 t677 (!t703))) else (w14_LensFits.j0 k l0 l1 l3 t675 t677 true))) else (w14_LensFits.j0 k l0 l1 l3 t675 t677 true)) = some r := H
       have A30 := JN A300
       clear A300
       by_cases c31 : t701 = true
       ·
        subst c31
        have H1 : ((r03_Same.f k l2 y685).bind fun t702 => (if t702 = true then ((r13_Same.f k l1 y691).bind fun t703 => (w14_LensFits.j0 k l0 l1 l3 t675 t677 (!t703))) else (w14_LensFits.j0 k l0 l1 l3 t675 t677 true))) = some r := by rw [if_pos rfl] at H; exact H
        clear H
        have H := H1
        clear H1
        replace H := Option.bind_eq_some_iff.mp H
        obtain ⟨t702, A320, H⟩ := H
        replace H : (if t702 = true then ((r13_Same.f k l1 y691).bind fun t703 => (w14_LensFits.j0 k l0 l1 l3 t675 t677 (!t703))) else (w14_LensFits.j0 k l0 l1 l3 t675 t677 true)) = some r := H
        have A32 := JN A320
        clear A320
        by_cases c33 : t702 = true
        ·
         subst c33
         have H1 : ((r13_Same.f k l1 y691).bind fun t703 => (w14_LensFits.j0 k l0 l1 l3 t675 t677 (!t703))) = some r := by rw [if_pos rfl] at H; exact H
         clear H
         have H := H1
         clear H1
         replace H := Option.bind_eq_some_iff.mp H
         obtain ⟨t703, A340, H⟩ := H
         replace H : (w14_LensFits.j0 k l0 l1 l3 t675 t677 (!t703)) = some r := H
         have A34 := JN A340
         clear A340
         have H' := JN H
         clear H
         obtain ⟨Ao35, co35, eo35⟩ := Kd.R_slice HO696.out
         subst eo35
         go_wp2_with (first | ((with_reducible refine JM (f := 24) rfl ?_); refine goesL_ (some 43) rfl rfl Tryz.func24 (Kg) rfl #[.slice Ao35 t694.length co35, .slice Ao18 t677.length co18] rfl (Ke) ?_; (with_reducible refine (shape_Fits.calls k _ _ t694 _ _ t677 true _ ?side1 ?side2 ?side3 ?side4 A27.out).mono ?_); (case side1 => repeat (first | exact (Kd.R_reads' HO696.out).2.2 | (with_reducible refine Kd.C_alloc ?_ _) | (with_reducible refine Kd.C_drewN ?_ _) | (with_reducible refine Kd.C_drew ?_))); (case side2 => exact (Kd.R_reads' HO696.out).2.1); (case side3 => repeat (first | exact (Kd.V_reads' HO679.out).2.2 | (with_reducible refine Kd.C_alloc ?_ _) | (with_reducible refine Kd.C_drewN ?_ _) | (with_reducible refine Kd.C_drew ?_))); (case side4 => exact (Kd.V_reads' HO679.out).2.1); rintro e w36 ⟨rfl, hb⟩; refine ⟨_, rfl, ?_⟩; have n0_ := JN (Kd.V_below (Ku) hb); have n1_ := JN (Kd.R_below (Kt) hb); have n2_ := JN (Kd.R_below (Ky) hb); have n3_ := JN (Kd.R_below (Kx) hb); have n4_ := JN (JB (Ka) hb); clear HO679; clear HO687; clear HO693; clear HO696; clear HB; have HO679 := n0_; have HO687 := n1_; have HO693 := n2_; have HO696 := n3_; have HB := n4_; clear n0_ n1_ n2_ n3_ n4_; (try clear hb); (try clear hb2); (try clear hk); (try clear hi)) | (go_at_call 30; (with_reducible refine (lens_Back.calls _ _ l0 _ _ l1 _ _ t694 t698 _ ?side1 ?side2 ?side3 ?side4 ?side5 ?side6 ?side7 A29.out).mono ?_); (case side1 => exact Good.below HG.out (Ka)); (case side2 => repeat (first | exact (Kd.C_below HR0.out HB.out) | (with_reducible refine Kd.C_alloc ?_ _) | (with_reducible refine Kd.C_drewN ?_ _) | (with_reducible refine Kd.C_drew ?_))); (case side3 => exact HC0.out); (case side4 => repeat (first | exact (Kd.C_below HR1.out HB.out) | (with_reducible refine Kd.C_alloc ?_ _) | (with_reducible refine Kd.C_drewN ?_ _) | (with_reducible refine Kd.C_drew ?_))); (case side5 => exact HC1.out); (case side6 => repeat (first | exact (Kd.R_reads' HO696.out).2.2 | (with_reducible refine Kd.C_alloc ?_ _) | (with_reducible refine Kd.C_drewN ?_ _) | (with_reducible refine Kd.C_drew ?_))); (case side7 => exact (Kd.R_reads' HO696.out).2.1); rintro e w37 ⟨v699, rfl, ho0, hb⟩; have n0_ := JN (Kd.V_elder' (Ku) (Kd.R_base ho0) hb); have n1_ := JN (Kd.R_elder' (Kt) (Kd.R_base ho0) hb); have n2_ := JN (Kd.R_below (Ky) hb); have n3_ := JN (Kd.R_elder' (Kx) (Kd.R_base ho0) hb); have n4_ := JN (Kd.R_lower (Kd.R_new' (Kd.R_new' ho0 (Kd.R_lt (Kt))) (Kd.R_lt (Kx))) (below_size (Ka))); have n5_ := JN (JB (Ka) hb); clear HO679; clear HO687; clear HO693; clear HO696; clear HB; have HO679 := n0_; have HO687 := n1_; have HO693 := n2_; have HO696 := n3_; have HO700 := n4_; have HB := n5_; clear n0_ n1_ n2_ n3_ n4_ n5_; (try clear hb); (try clear hb2); (try clear hk); (try clear hi); (try clear ho0); obtain ⟨Ao38, co38, eo38⟩ := Kd.R_slice HO700.out; subst eo38) | (go_at_call 24; (with_reducible refine (shape_Fits.calls k _ _ t698 _ _ l1 true _ ?side1 ?side2 ?side3 ?side4 A30.out).mono ?_); (case side1 => repeat (first | exact (Kd.R_reads' HO700.out).2.2 | (with_reducible refine Kd.C_alloc ?_ _) | (with_reducible refine Kd.C_drewN ?_ _) | (with_reducible refine Kd.C_drew ?_))); (case side2 => exact (Kd.R_reads' HO700.out).2.1); (case side3 => repeat (first | exact (Kd.C_below HR1.out HB.out) | (with_reducible refine Kd.C_alloc ?_ _) | (with_reducible refine Kd.C_drewN ?_ _) | (with_reducible refine Kd.C_drew ?_))); (case side4 => exact HC1.out); rintro e w39 ⟨rfl, hb⟩; have n0_ := JN (Kd.V_below (Ku) hb); have n1_ := JN (Kd.R_below (Kt) hb); have n2_ := JN (Kd.R_below (Ky) hb); have n3_ := JN (Kd.R_below (Kx) hb); have n4_ := JN (Kd.R_below (Jf) hb); have n5_ := JN (JB (Ka) hb); clear HO679; clear HO687; clear HO693; clear HO696; clear HO700; clear HB; have HO679 := n0_; have HO687 := n1_; have HO693 := n2_; have HO696 := n3_; have HO700 := n4_; have HB := n5_; clear n0_ n1_ n2_ n3_ n4_ n5_; (try clear hb); (try clear hb2); (try clear hk); (try clear hi); obtain ⟨Ao40, co40, eo40⟩ := Kd.R_slice HO687.out; subst eo40) | (go_at_call 29; (with_reducible refine (r03_Same.calls k _ _ l2 _ _ y685 true _ ?side1 ?side2 ?side3 ?side4 A32.out).mono ?_); (case side1 => repeat (first | exact (Kd.C_below HR2.out HB.out) | (with_reducible refine Kd.C_alloc ?_ _) | (with_reducible refine Kd.C_drewN ?_ _) | (with_reducible refine Kd.C_drew ?_))); (case side2 => exact HC2.out); (case side3 => repeat (first | exact (Kd.R_reads' HO687.out).2.2 | (with_reducible refine Kd.C_alloc ?_ _) | (with_reducible refine Kd.C_drewN ?_ _) | (with_reducible refine Kd.C_drew ?_))); (case side4 => exact (Kd.R_reads' HO687.out).2.1); rintro e w41 ⟨rfl, hb⟩; have n0_ := JN (Kd.V_below (Ku) hb); have n1_ := JN (Kd.R_below (Kt) hb); have n2_ := JN (Kd.R_below (Ky) hb); have n3_ := JN (Kd.R_below (Kx) hb); have n4_ := JN (Kd.R_below (Jf) hb); have n5_ := JN (JB (Ka) hb); clear HO679; clear HO687; clear HO693; clear HO696; clear HO700; clear HB; have HO679 := n0_; have HO687 := n1_; have HO693 := n2_; have HO696 := n3_; have HO700 := n4_; have HB := n5_; clear n0_ n1_ n2_ n3_ n4_ n5_; (try clear hb); (try clear hb2); (try clear hk); (try clear hi); obtain ⟨Ao42, co42, eo42⟩ := Kd.R_slice HO693.out; subst eo42) | (go_at_call 20; (with_reducible refine (r13_Same.calls k _ _ l1 _ _ y691 t703 _ ?side1 ?side2 ?side3 ?side4 A34.out).mono ?_); (case side1 => repeat (first | exact (Kd.C_below HR1.out HB.out) | (with_reducible refine Kd.C_alloc ?_ _) | (with_reducible refine Kd.C_drewN ?_ _) | (with_reducible refine Kd.C_drew ?_))); (case side2 => exact HC1.out); (case side3 => repeat (first | exact (Kd.R_reads' HO693.out).2.2 | (with_reducible refine Kd.C_alloc ?_ _) | (with_reducible refine Kd.C_drewN ?_ _) | (with_reducible refine Kd.C_drew ?_))); (case side4 => exact (Kd.R_reads' HO693.out).2.1); rintro e w' ⟨rfl, ⟨nd, rfl⟩⟩))
         go_meet
         case rel => exact ⟨_, (!t703), (Km), H', ⟨by first | omega | exact Nat.le_refl _⟩, ⟨Ji⟩, ⟨Ka⟩⟩
        ·
         replace c33 := Bool.eq_false_iff.mpr c33
         subst c33
         have H1 : (w14_LensFits.j0 k l0 l1 l3 t675 t677 true) = some r := by rw [if_neg (show ¬ (false = true) by decide)] at H; exact H
         clear H
         have H := H1
         clear H1
         have H' := JN H
         clear H
         obtain ⟨Ao43, co43, eo43⟩ := Kd.R_slice HO696.out
         subst eo43
         go_wp2_with (first | ((with_reducible refine JM (f := 24) rfl ?_); refine goesL_ (some 43) rfl rfl Tryz.func24 (Kg) rfl #[.slice Ao43 t694.length co43, .slice Ao18 t677.length co18] rfl (Ke) ?_; (with_reducible refine (shape_Fits.calls k _ _ t694 _ _ t677 true _ ?side1 ?side2 ?side3 ?side4 A27.out).mono ?_); (case side1 => repeat (first | exact (Kd.R_reads' HO696.out).2.2 | (with_reducible refine Kd.C_alloc ?_ _) | (with_reducible refine Kd.C_drewN ?_ _) | (with_reducible refine Kd.C_drew ?_))); (case side2 => exact (Kd.R_reads' HO696.out).2.1); (case side3 => repeat (first | exact (Kd.V_reads' HO679.out).2.2 | (with_reducible refine Kd.C_alloc ?_ _) | (with_reducible refine Kd.C_drewN ?_ _) | (with_reducible refine Kd.C_drew ?_))); (case side4 => exact (Kd.V_reads' HO679.out).2.1); rintro e w44 ⟨rfl, hb⟩; refine ⟨_, rfl, ?_⟩; have n0_ := JN (Kd.V_below (Ku) hb); have n1_ := JN (Kd.R_below (Kt) hb); have n2_ := JN (Kd.R_below (Ky) hb); have n3_ := JN (Kd.R_below (Kx) hb); have n4_ := JN (JB (Ka) hb); clear HO679; clear HO687; clear HO693; clear HO696; clear HB; have HO679 := n0_; have HO687 := n1_; have HO693 := n2_; have HO696 := n3_; have HB := n4_; clear n0_ n1_ n2_ n3_ n4_; (try clear hb); (try clear hb2); (try clear hk); (try clear hi)) | (go_at_call 30; (with_reducible refine (lens_Back.calls _ _ l0 _ _ l1 _ _ t694 t698 _ ?side1 ?side2 ?side3 ?side4 ?side5 ?side6 ?side7 A29.out).mono ?_); (case side1 => exact Good.below HG.out (Ka)); (case side2 => repeat (first | exact (Kd.C_below HR0.out HB.out) | (with_reducible refine Kd.C_alloc ?_ _) | (with_reducible refine Kd.C_drewN ?_ _) | (with_reducible refine Kd.C_drew ?_))); (case side3 => exact HC0.out); (case side4 => repeat (first | exact (Kd.C_below HR1.out HB.out) | (with_reducible refine Kd.C_alloc ?_ _) | (with_reducible refine Kd.C_drewN ?_ _) | (with_reducible refine Kd.C_drew ?_))); (case side5 => exact HC1.out); (case side6 => repeat (first | exact (Kd.R_reads' HO696.out).2.2 | (with_reducible refine Kd.C_alloc ?_ _) | (with_reducible refine Kd.C_drewN ?_ _) | (with_reducible refine Kd.C_drew ?_))); (case side7 => exact (Kd.R_reads' HO696.out).2.1); rintro e w45 ⟨v699, rfl, ho0, hb⟩; have n0_ := JN (Kd.V_elder' (Ku) (Kd.R_base ho0) hb); have n1_ := JN (Kd.R_elder' (Kt) (Kd.R_base ho0) hb); have n2_ := JN (Kd.R_below (Ky) hb); have n3_ := JN (Kd.R_elder' (Kx) (Kd.R_base ho0) hb); have n4_ := JN (Kd.R_lower (Kd.R_new' (Kd.R_new' ho0 (Kd.R_lt (Kt))) (Kd.R_lt (Kx))) (below_size (Ka))); have n5_ := JN (JB (Ka) hb); clear HO679; clear HO687; clear HO693; clear HO696; clear HB; have HO679 := n0_; have HO687 := n1_; have HO693 := n2_; have HO696 := n3_; have HO700 := n4_; have HB := n5_; clear n0_ n1_ n2_ n3_ n4_ n5_; (try clear hb); (try clear hb2); (try clear hk); (try clear hi); (try clear ho0); obtain ⟨Ao46, co46, eo46⟩ := Kd.R_slice HO700.out; subst eo46) | (go_at_call 24; (with_reducible refine (shape_Fits.calls k _ _ t698 _ _ l1 true _ ?side1 ?side2 ?side3 ?side4 A30.out).mono ?_); (case side1 => repeat (first | exact (Kd.R_reads' HO700.out).2.2 | (with_reducible refine Kd.C_alloc ?_ _) | (with_reducible refine Kd.C_drewN ?_ _) | (with_reducible refine Kd.C_drew ?_))); (case side2 => exact (Kd.R_reads' HO700.out).2.1); (case side3 => repeat (first | exact (Kd.C_below HR1.out HB.out) | (with_reducible refine Kd.C_alloc ?_ _) | (with_reducible refine Kd.C_drewN ?_ _) | (with_reducible refine Kd.C_drew ?_))); (case side4 => exact HC1.out); rintro e w47 ⟨rfl, hb⟩; have n0_ := JN (Kd.V_below (Ku) hb); have n1_ := JN (Kd.R_below (Kt) hb); have n2_ := JN (Kd.R_below (Ky) hb); have n3_ := JN (Kd.R_below (Kx) hb); have n4_ := JN (Kd.R_below (Jf) hb); have n5_ := JN (JB (Ka) hb); clear HO679; clear HO687; clear HO693; clear HO696; clear HO700; clear HB; have HO679 := n0_; have HO687 := n1_; have HO693 := n2_; have HO696 := n3_; have HO700 := n4_; have HB := n5_; clear n0_ n1_ n2_ n3_ n4_ n5_; (try clear hb); (try clear hb2); (try clear hk); (try clear hi); obtain ⟨Ao48, co48, eo48⟩ := Kd.R_slice HO687.out; subst eo48) | (go_at_call 29; (with_reducible refine (r03_Same.calls k _ _ l2 _ _ y685 false _ ?side1 ?side2 ?side3 ?side4 A32.out).mono ?_); (case side1 => repeat (first | exact (Kd.C_below HR2.out HB.out) | (with_reducible refine Kd.C_alloc ?_ _) | (with_reducible refine Kd.C_drewN ?_ _) | (with_reducible refine Kd.C_drew ?_))); (case side2 => exact HC2.out); (case side3 => repeat (first | exact (Kd.R_reads' HO687.out).2.2 | (with_reducible refine Kd.C_alloc ?_ _) | (with_reducible refine Kd.C_drewN ?_ _) | (with_reducible refine Kd.C_drew ?_))); (case side4 => exact (Kd.R_reads' HO687.out).2.1); rintro e w49 ⟨rfl, hb⟩; have n0_ := JN (Kd.V_below (Ku) hb); have n1_ := JN (Kd.R_below (Kt) hb); have n2_ := JN (Kd.R_below (Ky) hb); have n3_ := JN (Kd.R_below (Kx) hb); have n4_ := JN (Kd.R_below (Jf) hb); have n5_ := JN (JB (Ka) hb); clear HO679; clear HO687; clear HO693; clear HO696; clear HO700; clear HB; have HO679 := n0_; have HO687 := n1_; have HO693 := n2_; have HO696 := n3_; have HO700 := n4_; have HB := n5_; clear n0_ n1_ n2_ n3_ n4_ n5_; (try clear hb); (try clear hb2); (try clear hk); (try clear hi)))
         go_meet
         case rel => exact ⟨_, (true), (Km), H', ⟨by first | omega | exact Nat.le_refl _⟩, ⟨Ji⟩, ⟨Ka⟩⟩
       ·
        replace c31 := Bool.eq_false_iff.mpr c31
        subst c31
        have H1 : (w14_LensFits.j0 k l0 l1 l3 t675 t677 true) = some r := by rw [if_neg (show ¬ (false = true) by decide)] at H; exact H
        clear H
        have H := H1
        clear H1
        have H' := JN H
        clear H
        obtain ⟨Ao50, co50, eo50⟩ := Kd.R_slice HO696.out
        subst eo50
        go_wp2_with (first | ((with_reducible refine JM (f := 24) rfl ?_); refine goesL_ (some 43) rfl rfl Tryz.func24 (Kg) rfl #[.slice Ao50 t694.length co50, .slice Ao18 t677.length co18] rfl (Ke) ?_; (with_reducible refine (shape_Fits.calls k _ _ t694 _ _ t677 true _ ?side1 ?side2 ?side3 ?side4 A27.out).mono ?_); (case side1 => repeat (first | exact (Kd.R_reads' HO696.out).2.2 | (with_reducible refine Kd.C_alloc ?_ _) | (with_reducible refine Kd.C_drewN ?_ _) | (with_reducible refine Kd.C_drew ?_))); (case side2 => exact (Kd.R_reads' HO696.out).2.1); (case side3 => repeat (first | exact (Kd.V_reads' HO679.out).2.2 | (with_reducible refine Kd.C_alloc ?_ _) | (with_reducible refine Kd.C_drewN ?_ _) | (with_reducible refine Kd.C_drew ?_))); (case side4 => exact (Kd.V_reads' HO679.out).2.1); rintro e w51 ⟨rfl, hb⟩; refine ⟨_, rfl, ?_⟩; have n0_ := JN (Kd.V_below (Ku) hb); have n1_ := JN (Kd.R_below (Kt) hb); have n2_ := JN (Kd.R_below (Ky) hb); have n3_ := JN (Kd.R_below (Kx) hb); have n4_ := JN (JB (Ka) hb); clear HO679; clear HO687; clear HO693; clear HO696; clear HB; have HO679 := n0_; have HO687 := n1_; have HO693 := n2_; have HO696 := n3_; have HB := n4_; clear n0_ n1_ n2_ n3_ n4_; (try clear hb); (try clear hb2); (try clear hk); (try clear hi)) | (go_at_call 30; (with_reducible refine (lens_Back.calls _ _ l0 _ _ l1 _ _ t694 t698 _ ?side1 ?side2 ?side3 ?side4 ?side5 ?side6 ?side7 A29.out).mono ?_); (case side1 => exact Good.below HG.out (Ka)); (case side2 => repeat (first | exact (Kd.C_below HR0.out HB.out) | (with_reducible refine Kd.C_alloc ?_ _) | (with_reducible refine Kd.C_drewN ?_ _) | (with_reducible refine Kd.C_drew ?_))); (case side3 => exact HC0.out); (case side4 => repeat (first | exact (Kd.C_below HR1.out HB.out) | (with_reducible refine Kd.C_alloc ?_ _) | (with_reducible refine Kd.C_drewN ?_ _) | (with_reducible refine Kd.C_drew ?_))); (case side5 => exact HC1.out); (case side6 => repeat (first | exact (Kd.R_reads' HO696.out).2.2 | (with_reducible refine Kd.C_alloc ?_ _) | (with_reducible refine Kd.C_drewN ?_ _) | (with_reducible refine Kd.C_drew ?_))); (case side7 => exact (Kd.R_reads' HO696.out).2.1); rintro e w52 ⟨v699, rfl, ho0, hb⟩; have n0_ := JN (Kd.V_elder' (Ku) (Kd.R_base ho0) hb); have n1_ := JN (Kd.R_elder' (Kt) (Kd.R_base ho0) hb); have n2_ := JN (Kd.R_below (Ky) hb); have n3_ := JN (Kd.R_elder' (Kx) (Kd.R_base ho0) hb); have n4_ := JN (Kd.R_lower (Kd.R_new' (Kd.R_new' ho0 (Kd.R_lt (Kt))) (Kd.R_lt (Kx))) (below_size (Ka))); have n5_ := JN (JB (Ka) hb); clear HO679; clear HO687; clear HO693; clear HO696; clear HB; have HO679 := n0_; have HO687 := n1_; have HO693 := n2_; have HO696 := n3_; have HO700 := n4_; have HB := n5_; clear n0_ n1_ n2_ n3_ n4_ n5_; (try clear hb); (try clear hb2); (try clear hk); (try clear hi); (try clear ho0); obtain ⟨Ao53, co53, eo53⟩ := Kd.R_slice HO700.out; subst eo53) | (go_at_call 24; (with_reducible refine (shape_Fits.calls k _ _ t698 _ _ l1 false _ ?side1 ?side2 ?side3 ?side4 A30.out).mono ?_); (case side1 => repeat (first | exact (Kd.R_reads' HO700.out).2.2 | (with_reducible refine Kd.C_alloc ?_ _) | (with_reducible refine Kd.C_drewN ?_ _) | (with_reducible refine Kd.C_drew ?_))); (case side2 => exact (Kd.R_reads' HO700.out).2.1); (case side3 => repeat (first | exact (Kd.C_below HR1.out HB.out) | (with_reducible refine Kd.C_alloc ?_ _) | (with_reducible refine Kd.C_drewN ?_ _) | (with_reducible refine Kd.C_drew ?_))); (case side4 => exact HC1.out); rintro e w54 ⟨rfl, hb⟩; have n0_ := JN (Kd.V_below (Ku) hb); have n1_ := JN (Kd.R_below (Kt) hb); have n2_ := JN (Kd.R_below (Ky) hb); have n3_ := JN (Kd.R_below (Kx) hb); have n4_ := JN (Kd.R_below (Jf) hb); have n5_ := JN (JB (Ka) hb); clear HO679; clear HO687; clear HO693; clear HO696; clear HO700; clear HB; have HO679 := n0_; have HO687 := n1_; have HO693 := n2_; have HO696 := n3_; have HO700 := n4_; have HB := n5_; clear n0_ n1_ n2_ n3_ n4_ n5_; (try clear hb); (try clear hb2); (try clear hk); (try clear hi)))
        go_meet
        case rel => exact ⟨_, (true), (Km), H', ⟨by first | omega | exact Nat.le_refl _⟩, ⟨Ji⟩, ⟨Ka⟩⟩
      ·
       replace c28 := Bool.eq_false_iff.mpr c28
       subst c28
       have H1 : (w14_LensFits.j0 k l0 l1 l3 t675 t677 true) = some r := by rw [if_neg (show ¬ (false = true) by decide)] at H; exact H
       clear H
       have H := H1
       clear H1
       have H' := JN H
       clear H
       obtain ⟨Ao55, co55, eo55⟩ := Kd.R_slice HO696.out
       subst eo55
       go_wp2_with (first | ((with_reducible refine JM (f := 24) rfl ?_); refine goesL_ (some 43) rfl rfl Tryz.func24 (Kg) rfl #[.slice Ao55 t694.length co55, .slice Ao18 t677.length co18] rfl (Ke) ?_; (with_reducible refine (shape_Fits.calls k _ _ t694 _ _ t677 false _ ?side1 ?side2 ?side3 ?side4 A27.out).mono ?_); (case side1 => repeat (first | exact (Kd.R_reads' HO696.out).2.2 | (with_reducible refine Kd.C_alloc ?_ _) | (with_reducible refine Kd.C_drewN ?_ _) | (with_reducible refine Kd.C_drew ?_))); (case side2 => exact (Kd.R_reads' HO696.out).2.1); (case side3 => repeat (first | exact (Kd.V_reads' HO679.out).2.2 | (with_reducible refine Kd.C_alloc ?_ _) | (with_reducible refine Kd.C_drewN ?_ _) | (with_reducible refine Kd.C_drew ?_))); (case side4 => exact (Kd.V_reads' HO679.out).2.1); rintro e w56 ⟨rfl, hb⟩; refine ⟨_, rfl, ?_⟩; have n0_ := JN (Kd.V_below (Ku) hb); have n1_ := JN (Kd.R_below (Kt) hb); have n2_ := JN (Kd.R_below (Ky) hb); have n3_ := JN (Kd.R_below (Kx) hb); have n4_ := JN (JB (Ka) hb); clear HO679; clear HO687; clear HO693; clear HO696; clear HB; have HO679 := n0_; have HO687 := n1_; have HO693 := n2_; have HO696 := n3_; have HB := n4_; clear n0_ n1_ n2_ n3_ n4_; (try clear hb); (try clear hb2); (try clear hk); (try clear hi)))
       go_meet
       case rel => exact ⟨_, (true), (Km), H', ⟨by first | omega | exact Nat.le_refl _⟩, ⟨Ji⟩, ⟨Ka⟩⟩
     case rest =>
      clear HC14
      try clear c1
      try clear c2
      try clear p2
      try clear c3
      try clear c5
      try clear c7
      try clear c9
      try clear c10
      try clear c11
      try clear c12
      try clear c17
      try clear c22
      try clear c24
      try clear c25
      try clear c28
      try clear c31
      try clear c32
      try clear c33
      obtain ⟨kq, x65_13, rfl, HA, HJ13, HO_10, HB⟩ := hcut
      cases kq with
      | zero => exact absurd HA.out (by simp [w14_LensFits.j0])
      | succ kj13 =>
       have H := HA.out
       clear HA
       simp only [w14_LensFits.j0] at H
       by_cases c57 : x65_13 = true
       ·
        subst c57
        have H1 : (some false) = some r := by rw [if_pos rfl] at H; exact H
        clear H
        have H := H1
        clear H1
        obtain rfl := Option.some.inj H
        go_wp2
        go_ret
        exact ⟨Kf, Ka⟩
       ·
        replace c57 := Bool.eq_false_iff.mpr c57
        subst c57
        have H1 : (if t675 = true then ((shape_Fits.f kj13 l3 t677).bind fun t704 => (if t704 = true then ((lens_Back.f l0 l1 l3).bind fun t705 => ((shape_Fits.f kj13 t705 l1).bind fun t708 => (some t708))) else (some true))) else (some false)) = some r := by rw [if_neg (show ¬ (false = true) by decide)] at H; exact H
        clear H
        have H := H1
        clear H1
        by_cases c58 : t675 = true
        ·
         subst c58
         have H1 : ((shape_Fits.f kj13 l3 t677).bind fun t704 => (if t704 = true then ((lens_Back.f l0 l1 l3).bind fun t705 => ((shape_Fits.f kj13 t705 l1).bind fun t708 => (some t708))) else (some true))) = some r := by rw [if_pos rfl] at H; exact H
         clear H
         have H := H1
         clear H1
         replace H := Option.bind_eq_some_iff.mp H
         obtain ⟨t704, A590, H⟩ := H
         replace H : (if t704 = true then ((lens_Back.f l0 l1 l3).bind fun t705 => ((shape_Fits.f kj13 t705 l1).bind fun t708 => (some t708))) else (some true)) = some r := H
         have A59 := JN A590
         clear A590
         by_cases c60 : t704 = true
         ·
          subst c60
          have H1 : ((lens_Back.f l0 l1 l3).bind fun t705 => ((shape_Fits.f kj13 t705 l1).bind fun t708 => (some t708))) = some r := by rw [if_pos rfl] at H; exact H
          clear H
          have H := H1
          clear H1
          replace H := Option.bind_eq_some_iff.mp H
          obtain ⟨t705, A610, H⟩ := H
          replace H : ((shape_Fits.f kj13 t705 l1).bind fun t708 => (some t708)) = some r := H
          have A61 := JN A610
          clear A610
          replace H := Option.bind_eq_some_iff.mp H
          obtain ⟨t708, A620, H⟩ := H
          replace H : (some t708) = some r := H
          have A62 := JN A620
          clear A620
          obtain rfl := Option.some.inj H
          go_wp2_with (first | (go_at_call 24; (with_reducible refine (shape_Fits.calls kj13 _ _ l3 _ _ t677 true _ ?side1 ?side2 ?side3 ?side4 A59.out).mono ?_); (case side1 => repeat (first | exact (Kd.C_below HR3.out HB.out) | (with_reducible refine Kd.C_alloc ?_ _) | (with_reducible refine Kd.C_drewN ?_ _) | (with_reducible refine Kd.C_drew ?_))); (case side2 => exact HC3.out); (case side3 => repeat (first | exact (Kd.V_reads' HO_10.out).2.2 | (with_reducible refine Kd.C_alloc ?_ _) | (with_reducible refine Kd.C_drewN ?_ _) | (with_reducible refine Kd.C_drew ?_))); (case side4 => exact (Kd.V_reads' HO_10.out).2.1); rintro e w63 ⟨rfl, hb⟩; have n0_ := JN (Kd.V_below (Jm) hb); have n1_ := JN (JB (Ka) hb); clear HO_10; clear HB; have HO_10 := n0_; have HB := n1_; clear n0_ n1_; (try clear hb); (try clear hb2); (try clear hk); (try clear hi)) | (go_at_call 30; (with_reducible refine (lens_Back.calls _ _ l0 _ _ l1 _ _ l3 t705 _ ?side1 ?side2 ?side3 ?side4 ?side5 ?side6 ?side7 A61.out).mono ?_); (case side1 => exact Good.below HG.out (Ka)); (case side2 => repeat (first | exact (Kd.C_below HR0.out HB.out) | (with_reducible refine Kd.C_alloc ?_ _) | (with_reducible refine Kd.C_drewN ?_ _) | (with_reducible refine Kd.C_drew ?_))); (case side3 => exact HC0.out); (case side4 => repeat (first | exact (Kd.C_below HR1.out HB.out) | (with_reducible refine Kd.C_alloc ?_ _) | (with_reducible refine Kd.C_drewN ?_ _) | (with_reducible refine Kd.C_drew ?_))); (case side5 => exact HC1.out); (case side6 => repeat (first | exact (Kd.C_below HR3.out HB.out) | (with_reducible refine Kd.C_alloc ?_ _) | (with_reducible refine Kd.C_drewN ?_ _) | (with_reducible refine Kd.C_drew ?_))); (case side7 => exact HC3.out); rintro e w64 ⟨v706, rfl, ho0, hb⟩; have n0_ := JN (Kd.V_elder' (Jm) (Kd.R_base ho0) hb); have n1_ := JN (Kd.R_lower ho0 (below_size (Ka))); have n2_ := JN (JB (Ka) hb); clear HO_10; clear HB; have HO_10 := n0_; have HO707 := n1_; have HB := n2_; clear n0_ n1_ n2_; (try clear hb); (try clear hb2); (try clear hk); (try clear hi); (try clear ho0); obtain ⟨Ao65, co65, eo65⟩ := Kd.R_slice HO707.out; subst eo65) | (go_at_call 24; (with_reducible refine (shape_Fits.calls kj13 _ _ t705 _ _ l1 t708 _ ?side1 ?side2 ?side3 ?side4 A62.out).mono ?_); (case side1 => repeat (first | exact (Kd.R_reads' HO707.out).2.2 | (with_reducible refine Kd.C_alloc ?_ _) | (with_reducible refine Kd.C_drewN ?_ _) | (with_reducible refine Kd.C_drew ?_))); (case side2 => exact (Kd.R_reads' HO707.out).2.1); (case side3 => repeat (first | exact (Kd.C_below HR1.out HB.out) | (with_reducible refine Kd.C_alloc ?_ _) | (with_reducible refine Kd.C_drewN ?_ _) | (with_reducible refine Kd.C_drew ?_))); (case side4 => exact HC1.out); rintro e w66 ⟨rfl, hb⟩; have n0_ := JN (Kd.V_below (Jm) hb); have n1_ := JN (Kd.R_below (by (with_reducible repeat (first | apply Kd.R_alloc | apply Kd.R_drewN | apply Kd.R_drew)); exact HO707.out) hb); have n2_ := JN (JB (Ka) hb); clear HO_10; clear HO707; clear HB; have HO_10 := n0_; have HO707 := n1_; have HB := n2_; clear n0_ n1_ n2_; (try clear hb); (try clear hb2); (try clear hk); (try clear hi)))
          go_ret
          exact ⟨Kf, Ka⟩
         ·
          replace c60 := Bool.eq_false_iff.mpr c60
          subst c60
          have H1 : (some true) = some r := by rw [if_neg (show ¬ (false = true) by decide)] at H; exact H
          clear H
          have H := H1
          clear H1
          obtain rfl := Option.some.inj H
          go_wp2_with (first | (go_at_call 24; (with_reducible refine (shape_Fits.calls kj13 _ _ l3 _ _ t677 false _ ?side1 ?side2 ?side3 ?side4 A59.out).mono ?_); (case side1 => repeat (first | exact (Kd.C_below HR3.out HB.out) | (with_reducible refine Kd.C_alloc ?_ _) | (with_reducible refine Kd.C_drewN ?_ _) | (with_reducible refine Kd.C_drew ?_))); (case side2 => exact HC3.out); (case side3 => repeat (first | exact (Kd.V_reads' HO_10.out).2.2 | (with_reducible refine Kd.C_alloc ?_ _) | (with_reducible refine Kd.C_drewN ?_ _) | (with_reducible refine Kd.C_drew ?_))); (case side4 => exact (Kd.V_reads' HO_10.out).2.1); rintro e w67 ⟨rfl, hb⟩; have n0_ := JN (Kd.V_below (Jm) hb); have n1_ := JN (JB (Ka) hb); clear HO_10; clear HB; have HO_10 := n0_; have HB := n1_; clear n0_ n1_; (try clear hb); (try clear hb2); (try clear hk); (try clear hi)))
          go_ret
          exact ⟨Kf, Ka⟩
        ·
         replace c58 := Bool.eq_false_iff.mpr c58
         subst c58
         have H1 : (some false) = some r := by rw [if_neg (show ¬ (false = true) by decide)] at H; exact H
         clear H
         have H := H1
         clear H1
         obtain rfl := Option.some.inj H
         go_wp2
         go_ret
         exact ⟨Kf, Ka⟩
    ·
     rw [if_neg c12] at H
     exact absurd H (by simp)
   ·
    rw [if_neg c11] at H
    exact absurd H (by simp)
  ·
   replace c10 := Bool.eq_false_iff.mpr c10
   subst c10
   have H1 : (some false) = some r := by rw [if_neg (show ¬ (false = true) by decide)] at H; exact H
   clear H
   have H := H1
   clear H1
   obtain rfl := Option.some.inj H
   go_enter Tryz.func5, Tryz.ntmps5
   go_wp2_with (first | ((with_reducible refine JM (f := 9) rfl ?_); refine goesL_ (some 15) rfl rfl Tryz.func9 (Kg) rfl #[] rfl (Ke) ?_; (with_reducible refine (w14_small.calls  t675 _ ?side1 A5.out).mono ?_); (case side1 => exact Good.below HG.out (Ka)); rintro e w68 ⟨rfl, hb⟩; refine ⟨_, rfl, ?_⟩; have n0_ := JN (JB (Ka) hb); clear HB; have HB := n0_; clear n0_; (try clear hb); (try clear hb2); (try clear hk); (try clear hi)) | ((with_reducible refine JM (f := 32) rfl ?_); refine goesL_ (some 19) rfl rfl Tryz.func32 (Kg) rfl #[.slice A0 l0.length c0, .slice A1 l1.length c1, .slice A2 l2.length c2] rfl (Ke) ?_; (with_reducible refine (w14_suits.calls k _ _ l0 _ _ l1 _ _ l2 true _ ?side1 ?side2 ?side3 ?side4 ?side5 ?side6 A6.out).mono ?_); (case side1 => repeat (first | exact (Kd.C_below HR0.out HB.out) | (with_reducible refine Kd.C_alloc ?_ _) | (with_reducible refine Kd.C_drewN ?_ _) | (with_reducible refine Kd.C_drew ?_))); (case side2 => exact HC0.out); (case side3 => repeat (first | exact (Kd.C_below HR1.out HB.out) | (with_reducible refine Kd.C_alloc ?_ _) | (with_reducible refine Kd.C_drewN ?_ _) | (with_reducible refine Kd.C_drew ?_))); (case side4 => exact HC1.out); (case side5 => repeat (first | exact (Kd.C_below HR2.out HB.out) | (with_reducible refine Kd.C_alloc ?_ _) | (with_reducible refine Kd.C_drewN ?_ _) | (with_reducible refine Kd.C_drew ?_))); (case side6 => exact HC2.out); rintro e w69 ⟨rfl, hb⟩; refine ⟨_, rfl, ?_⟩; have n0_ := JN (JB (Ka) hb); clear HB; have HB := n0_; clear n0_; (try clear hb); (try clear hb2); (try clear hk); (try clear hi)) | ((with_reducible refine JM (f := 22) rfl ?_); refine goesL_ (some 25) rfl rfl Tryz.func22 (Kg) rfl #[.slice A0 l0.length c0, .slice A1 l1.length c1] rfl (Ke) ?_; (with_reducible refine (lens_To.calls k _ _ l0 _ _ l1 t677 t680 _ ?side1 ?side2 ?side3 ?side4 A8.out).mono ?_); (case side1 => repeat (first | exact (Kd.C_below HR0.out HB.out) | (with_reducible refine Kd.C_alloc ?_ _) | (with_reducible refine Kd.C_drewN ?_ _) | (with_reducible refine Kd.C_drew ?_))); (case side2 => exact HC0.out); (case side3 => repeat (first | exact (Kd.C_below HR1.out HB.out) | (with_reducible refine Kd.C_alloc ?_ _) | (with_reducible refine Kd.C_drewN ?_ _) | (with_reducible refine Kd.C_drew ?_))); (case side4 => exact HC1.out); rintro e w70 ⟨v678, rfl, ho0, hb⟩; refine ⟨_, rfl, ?_⟩; have n0_ := JN (Kd.V_lower (Kd.V_mono (ok' := fun k_ => True) ho0 (fun k_ hk_ => trivial)) (below_size (Ka))); have n1_ := JN (JB (Ka) hb); clear HB; have HO679 := n0_; have HB := n1_; clear n0_ n1_; (try clear hb); (try clear hb2); (try clear hk); (try clear hi); (try clear ho0); obtain ⟨Ao71, co71, eo71⟩ := Kd.V_slice HO679.out; subst eo71) | ((with_reducible refine JM (f := 17) rfl ?_); refine goesL_ (some 29) rfl rfl Tryz.func17 (Kg) rfl #[.slice Ao71 t677.length co71] rfl (Ke) ?_; (with_reducible refine (shape_Right.calls _ _ t677 false _ ?side1 ?side2 A9.out).mono ?_); (case side1 => repeat (first | exact (Kd.V_reads' HO679.out).2.2 | (with_reducible refine Kd.C_alloc ?_ _) | (with_reducible refine Kd.C_drewN ?_ _) | (with_reducible refine Kd.C_drew ?_))); (case side2 => exact (Kd.V_reads' HO679.out).2.1); rintro e w72 ⟨rfl, hb⟩; refine ⟨_, rfl, ?_⟩; have n0_ := JN (Kd.V_below (Ku) hb); have n1_ := JN (JB (Ka) hb); clear HO679; clear HB; have HO679 := n0_; have HB := n1_; clear n0_ n1_; (try clear hb); (try clear hb2); (try clear hk); (try clear hi)))
   go_ret
   exact ⟨Kf, Ka⟩
 ·
  replace c7 := Bool.eq_false_iff.mpr c7
  subst c7
  have H1 : (some t675) = some r := by rw [if_neg (show ¬ (false = true) by decide)] at H; exact H
  clear H
  have H := H1
  clear H1
  obtain rfl := Option.some.inj H
  go_enter Tryz.func5, Tryz.ntmps5
  go_wp2_with (first | ((with_reducible refine JM (f := 9) rfl ?_); refine goesL_ (some 15) rfl rfl Tryz.func9 (Kg) rfl #[] rfl (Ke) ?_; (with_reducible refine (w14_small.calls  t675 _ ?side1 A5.out).mono ?_); (case side1 => exact Good.below HG.out (Ka)); rintro e w73 ⟨rfl, hb⟩; refine ⟨_, rfl, ?_⟩; have n0_ := JN (JB (Ka) hb); clear HB; have HB := n0_; clear n0_; (try clear hb); (try clear hb2); (try clear hk); (try clear hi)) | ((with_reducible refine JM (f := 32) rfl ?_); refine goesL_ (some 19) rfl rfl Tryz.func32 (Kg) rfl #[.slice A0 l0.length c0, .slice A1 l1.length c1, .slice A2 l2.length c2] rfl (Ke) ?_; (with_reducible refine (w14_suits.calls k _ _ l0 _ _ l1 _ _ l2 false _ ?side1 ?side2 ?side3 ?side4 ?side5 ?side6 A6.out).mono ?_); (case side1 => repeat (first | exact (Kd.C_below HR0.out HB.out) | (with_reducible refine Kd.C_alloc ?_ _) | (with_reducible refine Kd.C_drewN ?_ _) | (with_reducible refine Kd.C_drew ?_))); (case side2 => exact HC0.out); (case side3 => repeat (first | exact (Kd.C_below HR1.out HB.out) | (with_reducible refine Kd.C_alloc ?_ _) | (with_reducible refine Kd.C_drewN ?_ _) | (with_reducible refine Kd.C_drew ?_))); (case side4 => exact HC1.out); (case side5 => repeat (first | exact (Kd.C_below HR2.out HB.out) | (with_reducible refine Kd.C_alloc ?_ _) | (with_reducible refine Kd.C_drewN ?_ _) | (with_reducible refine Kd.C_drew ?_))); (case side6 => exact HC2.out); rintro e w74 ⟨rfl, hb⟩; refine ⟨_, rfl, ?_⟩; have n0_ := JN (JB (Ka) hb); clear HB; have HB := n0_; clear n0_; (try clear hb); (try clear hb2); (try clear hk); (try clear hi)))
  go_ret
  exact ⟨Kf, Ka⟩
end
end Go.Proofs.YtehjelobaflheaaGreatDoor.P
namespace Go.Proofs.YtehjelobaflheaaGreatDoor.Pure
open Go.RowKit Go.Proofs.YtehjelobaflheaaGreatDoorW.PrintWords Go.Proofs.YtehjelobaflheaaGreatDoorW.PrintMore Go.Proofs.YtehjelobaflheaaGreatDoor.P
theorem lensOk {l : List Step} (h : ∀ x ∈ l, GoodStep x) (hs : ∀ x ∈ l, x.f4.size ≤ 210) : ∀ x ∈ l, stepOk x := fun x hx => by
 obtain ⟨_, _, _, _, _, _, hv⟩ := h x hx
 exact ⟨wf_range hv.2.1, by have := hs x hx; omega⟩
theorem rowP {row : List Val} {cols : List Col} (h : ∀ v ∈ row, GoodVal v) (hf : fitsB row cols = true) : fitsP row cols := fitsP_of hf fun v hv => wf_range (h v hv).2.1
theorem fits_last (l : List Step) (cols : List Col) (last : List Val) (hl : l.length ≤ 20) (hs : shapeOk cols = true) (h0 : (runTo l cols).2 = 0) (hok : ∀ x ∈ l, stepOk x) (hg : ∀ v ∈ last, GoodVal v) : ∀ b, b = false →
  Ev (fun k => w14_LensFits.j0 k l cols last true (runTo l cols).1 b) true := by
 intro b hb
 have hr := runTo_right l cols hs h0
 have hm : (runTo l cols).1.length ≤ maxLen := by have := ok_len hr; unfold maxLen; omega
 have hm' : cols.length ≤ maxLen := by have := ok_len hs; unfold maxLen; omega
 have main : Ev (fun k => (shape_Fits.f k last (runTo l cols).1).bind fun t704 => (if t704 = true then ((lens_Back.f l cols last).bind fun t705 => ((shape_Fits.f k t705 cols).bind fun t708 => (some t708))) else (some true))) true := by
  refine Ev.bind (ev_fits _ _ hm) ?_
  by_cases hf : fitsB last (runTo l cols).1 = true
  ·
   have hP := rowP hg hf
   refine ev_if_pos hf (ev_bind_some (fun k => back_is l cols last (by omega) hs h0 hok hP) (Ev.bind (ev_fits _ _ hm') ?_))
   rw [fitsB_of (runBack_fits l cols last hs h0 hok hP) (ok_len hs).2]
   exact Ev.now _
  ·
   exact ev_if_neg hf (Ev.now _)
 generalize ht : true = tt
 refine Ev.step (fun k => rfl) (ev_if_neg (by rw [hb]; simp) (ev_if_pos ht.symm ?_))
 rw [← ht]
 exact main
theorem LensFits (l0 : List Step) (l1 : List Col) (l2 : List Val) (l3 : List Val) (hm0 : l0.length ≤ maxLen) (hg0 : ∀ a ∈ l0, GoodStep a) (hm1 : l1.length ≤ maxLen) (hg1 : ∀ a ∈ l1, GoodCol a) (hm2 : l2.length ≤ maxLen) (hg2 : ∀ a ∈ l2, GoodVal a) (hm3 : l3.length ≤ maxLen) (hg3 : ∀ a ∈ l3, GoodVal a) :
  ∃ k, w14_LensFits.f k l0 l1 l2 l3 = some true := by
 suffices h : Ev (fun k => w14_LensFits.f k l0 l1 l2 l3) true by
  obtain ⟨K, hK⟩ := h
  exact ⟨K, hK K (Nat.le_refl K)⟩
 unfold w14_LensFits.f
 refine ev_bind_some (a := true) (fun k => rfl) (Ev.bind (ev_suits l0 l1 l2 hm0 hm1) ?_)
 by_cases hsu : suitsS l0 l1 l2 = true
 case neg => exact ev_if_neg hsu (Ev.now _)
 obtain ⟨_, hs, hf, h0, hl, hsz⟩ := suits_facts hsu
 have hok := lensOk hg0 hsz
 have hP := rowP hg2 hf
 have hr := runTo_right l0 l1 hs h0
 have hlr := ok_len hr
 have hlc := ok_len hs
 have hm : (runTo l0 l1).1.length ≤ maxLen := by unfold maxLen; omega
 have hF := runFwd_fits l0 l1 l2 hs h0 hok hP
 have hto : toS l0 l1 = runTo l0 l1 := by unfold toS; rw [if_neg (by omega)]
 refine ev_if_pos hsu (Ev.bind (ev_to l0 l1 hs) ?_)
 rw [hto]
 refine ev_bind_some (a := shapeOk (runTo l0 l1).1) (fun k => rfl) (ev_if_pos hr ?_)
 have hl2 : l2.length ≤ 12 := by have := fitsP_len hP; omega
 refine ev_bind_some (a := ([] : List Val)) (fun k => rfl) (ev_if_pos (Jc) ?_)
 refine ev_bind_some (a := ([] : List Col)) (fun k => rfl) (ev_if_pos (Jc) ?_)
 refine Ev.bind (ev_forward l0 l1 l2 (by omega) hs h0 hok hP) (Ev.bind (ev_fits _ _ hm) ?_)
 rw [fitsB_of hF hlr.2]
 refine ev_if_pos rfl (ev_bind_some (fun k => back_is l0 l1 _ (by omega) hs h0 hok hF) (Ev.bind (ev_fits _ _ hm1) ?_))
 rw [fitsB_of (runBack_fits l0 l1 _ hs h0 hok hF) hlc.2]
 refine ev_if_pos rfl (Ev.bind (ev_same3 l2 ([] ++ l2) hm2 true (by simp)) (ev_if_pos rfl ?_))
 rw [List.nil_append]
 refine Ev.bind (ev_same13 l1 hm1) ?_
 exact fits_last l0 l1 l3 hl hs h0 hok hg3 (!true) rfl
end Go.Proofs.YtehjelobaflheaaGreatDoor.Pure
namespace Go.Proofs.YtehjelobaflheaaGreatDoor.lensFits
open Go.ChangeShapes Go.WideShapes Go.ChangeAt Go.RowKit Go.Proofs.YtehjelobaflheaaGreatDoorW.PrintWords Go.Proofs.YtehjelobaflheaaGreatDoor.P
open Go.ChangeMaps (open_string shut_string)
theorem own : ownKnob Tryz.prog.godebug = none := by kernel_rfl
theorem laidOut : laidOutB Tryz.prog = true := by kernel_rfl
theorem contract (H : Type) (enc : TypeId × Value → H) (W : World) (base : Nat) (args : Array Value) (ds gs : List (DataW H)) (before : List MemPlace)
  (hval : ∀ (j : Nat) t v, Tryz.f5.params[j]? = some t → args[j]? = some v → Value.okWide Tryz.prog W .any base t v)
  (hW : DataW.Whole enc Tryz.prog Tryz.f5.params.toList Rows.lensFitsSpec.vars false W args.toList ds gs before) (hG : Go.Proofs.YtehjelobaflheaaGreatDoor.P.Good W) :
  Calls Tryz.prog 5 args W fun e W' => ∃ v, e = .returned v ∧ Rows.lensFitsSpec.post enc Tryz.prog Tryz.f5 false true false false W args v W' := by
 have hW' := hW
 obtain ⟨p, q, hA0, hV, rfl, hfz, hnd⟩ := hW
 have hA : DataW.TrodAll enc Tryz.prog W 0 (fun _ => true) true Tryz.f5.params.toList args.toList ds p := hA0
 rw [Tryz.params5] at hA hval
 obtain ⟨v0, vs0, d0, ds0, p0, q0, hargs, rfl, rfl, h0, r0⟩ := trodAll_cons hA
 obtain ⟨v1, vs1, d1, ds1, p1, q1, rfl, rfl, rfl, h1, r1⟩ := trodAll_cons r0
 obtain ⟨v2, vs2, d2, ds2, p2, q2, rfl, rfl, rfl, h2, r2⟩ := trodAll_cons r1
 obtain ⟨v3, vs3, d3, ds3, p3, q3, rfl, rfl, rfl, h3, r3⟩ := trodAll_cons r2
 obtain ⟨rfl, rfl, rfl⟩ := trodAll_nil r3
 obtain rfl : args = #[v0, v1, v2, v3] := by cases args; simp_all
 obtain ⟨rfl, rfl⟩ := trodVars_none hV
 have k0 := h0
 have lt0 : ∀ x ∈ p0, x.block < W.heap.size := by obtain ⟨m, hm⟩ := k0; exact DataW.trod_lt m _ _ _ hm
 obtain ⟨a0, len0, cap0, rfl⟩ := okWide_slice Tryz.underlying22 (hval 0 22 v0 rfl rfl)
 obtain ⟨fuel0, hf0⟩ := h0
 obtain ⟨l0, ⟨A0, c0, hcs0, hc0, hr0⟩, hm0, hg0⟩ := opens_22 _ _ _ _ _ _ _ _ _ hf0
 simp [Value.cells] at hcs0
 obtain ⟨rfl, rfl, rfl⟩ := hcs0
 have k1 := h1
 have lt1 : ∀ x ∈ p1, x.block < W.heap.size := by obtain ⟨m, hm⟩ := k1; exact DataW.trod_lt m _ _ _ hm
 obtain ⟨a1, len1, cap1, rfl⟩ := okWide_slice Tryz.underlying35 (hval 1 35 v1 rfl rfl)
 obtain ⟨fuel1, hf1⟩ := h1
 obtain ⟨l1, ⟨A1, c1, hcs1, hc1, hr1⟩, hm1, hg1⟩ := opens_35 _ _ _ _ _ _ _ _ _ hf1
 simp [Value.cells] at hcs1
 obtain ⟨rfl, rfl, rfl⟩ := hcs1
 have k2 := h2
 have lt2 : ∀ x ∈ p2, x.block < W.heap.size := by obtain ⟨m, hm⟩ := k2; exact DataW.trod_lt m _ _ _ hm
 obtain ⟨a2, len2, cap2, rfl⟩ := okWide_slice Tryz.underlying36 (hval 2 36 v2 rfl rfl)
 obtain ⟨fuel2, hf2⟩ := h2
 obtain ⟨l2, ⟨A2, c2, hcs2, hc2, hr2⟩, hm2, hg2⟩ := opens_36 _ _ _ _ _ _ _ _ _ hf2
 simp [Value.cells] at hcs2
 obtain ⟨rfl, rfl, rfl⟩ := hcs2
 have k3 := h3
 have lt3 : ∀ x ∈ p3, x.block < W.heap.size := by obtain ⟨m, hm⟩ := k3; exact DataW.trod_lt m _ _ _ hm
 obtain ⟨a3, len3, cap3, rfl⟩ := okWide_slice Tryz.underlying36 (hval 3 36 v3 rfl rfl)
 obtain ⟨fuel3, hf3⟩ := h3
 obtain ⟨l3, ⟨A3, c3, hcs3, hc3, hr3⟩, hm3, hg3⟩ := opens_36 _ _ _ _ _ _ _ _ _ hf3
 simp [Value.cells] at hcs3
 obtain ⟨rfl, rfl, rfl⟩ := hcs3
 clear hA0 hval
 obtain ⟨k, h⟩ := Pure.LensFits l0 l1 l2 l3 hm0 hg0 hm1 hg1 hm2 hg2 hm3 hg3
 refine (w14_LensFits.calls k _ _ l0 _ _ l1 _ _ l2 _ _ l3 true W hG hr0 hc0 hr1 hc1 hr2 hc2 hr3 hc3 h).mono fun e W' ⟨he, bel⟩ => ?_
 subst he
 exact ⟨_, rfl, _, _, _, [], _, [], hW', trodAll_mk1 (shut_bool Tryz.underlying4 _), (trodAll_cons_mk (Below.trod laidOut (Kg) (of_decide_eq_true (Kg)) k0 bel lt0) (trodAll_cons_mk (Below.trod laidOut (Kg) (of_decide_eq_true (Kg)) k1 bel lt1) (trodAll_cons_mk (Below.trod laidOut (Kg) (of_decide_eq_true (Kg)) k2 bel lt2) (trodAll_cons_mk (Below.trod laidOut (Kg) (of_decide_eq_true (Kg)) k3 bel lt3) trodAll_mk0)))), rfl, bel.frame _, fun h => by cases h⟩
mutual
def flat : DataW Unit → List Value
 | .lit (.int k n) => [.int k n]
 | .lit (.string s) => [.string ⟨s.toArray⟩]
 | .lit (.bool b) => [.bool b]
 | .agg l => flats l
 | _ => []
def flats : List (DataW Unit) → List Value
 | [] => []
 | d :: l => flat d ++ flats l
end
noncomputable def low : Nat := (World.holding Tryz.prog default ⟨#[], #[], []⟩).heap.size
noncomputable def laidWorld (os : Os) : World := { World.holding Tryz.prog os ⟨#[.cells #[.string ⟨#[118, 97, 108, 117, 101, 32, 111, 117, 116, 32, 111, 102, 32, 114, 97, 110, 103, 101]⟩] 182, .cells #[.string ⟨#[105, 110, 118, 97, 108, 105, 100, 32, 115, 121, 110, 116, 97, 120]⟩] 182], #[], []⟩ with heap := ((((((World.holding Tryz.prog os ⟨#[.cells #[.string ⟨#[118, 97, 108, 117, 101, 32, 111, 117, 116, 32, 111, 102, 32, 114, 97, 110, 103, 101]⟩] 182, .cells #[.string ⟨#[105, 110, 118, 97, 108, 105, 100, 32, 115, 121, 110, 116, 97, 120]⟩] 182], #[], []⟩).heap.modify 4 fun
   | .cells _ t frozen => .cells (flat Rows.laid_math_bits_deBruijn32tab).toArray t frozen
   | o => o).modify 5 fun
   | .cells _ t frozen => .cells (flat Rows.laid_math_bits_deBruijn64tab).toArray t frozen
   | o => o).modify 3 fun
   | .cells _ t frozen => .cells (flat Rows.laid_internal_strconv_uint64pow10).toArray t frozen
   | o => o).modify 2 fun
   | .cells _ t frozen => .cells #[.iface 180 (.pointer (some ⟨low + 0, 0, none⟩))] t frozen
   | o => o).modify 1 fun
   | .cells _ t frozen => .cells #[.iface 180 (.pointer (some ⟨low + 1, 0, none⟩))] t frozen
   | o => o) }
theorem laid_met (os : Os) : laidMet Tryz.prog Rows.lensFitsRow.laid ((laidWorld os).forCall (fun _ _ => 0) ⟨#[], #[.slice none 0 0, .slice none 0 0, .slice none 0 0, .slice none 0 0], []⟩).memory :=
 laidMet_of_run' 8 (Kg) (Kg)
theorem reads (os : Os) {H : Type} (enc : TypeId × Value → H) : ∃ places, DataW.whole enc Tryz.prog ((laidWorld os).forCall (fun _ _ => 0) ⟨#[], #[.slice none 0 0, .slice none 0 0, .slice none 0 0, .slice none 0 0], []⟩).memory Tryz.f5.params.toList Rows.lensFitsSpec.vars false (#[.slice none 0 0, .slice none 0 0, .slice none 0 0, .slice none 0 0] : Array Value).toList 8 = some ([.nil, .nil, .nil, .nil], [], places) :=
 ⟨[], Kg⟩
theorem lifted (os : Os) (started : os.Started) (H : Type) (enc : TypeId × Value → H) (F : Stop.Interp) :
  ReturnsInHanded {} Tryz.checked os 5 .any ((OpenSpec.ofChange Rows.lensFitsSpec).preRow enc Tryz.prog Tryz.f5 Rows.lensFitsRow.domain false Rows.lensFitsRow.laid) (((OpenSpec.ofChange Rows.lensFitsSpec).at F).post enc Tryz.prog Tryz.f5 false true false false) := by
 obtain ⟨places, hx⟩ := reads os enc
 refine returnsInHanded_of_row (C := Tryz.checked) (s := (OpenSpec.ofChange Rows.lensFitsSpec)) own started (Kg) Tryz.func5
  (witness_row_at (enc := enc) (C := Tryz.checked) false (laidWorld os) #[.slice none 0 0, .slice none 0 0, .slice none 0 0, .slice none 0 0] rfl (Kg) (Kg) (Kg)
   (OpenSpec.preRow_of_cond 8 hx (Kg) (fun k hk => by cases hk) (Kg) (laid_met os))) ?_
 intro W base args ds gs before hval hW _ hcond _ hL hsh _
 exact contract H enc W base args ds gs before hval hW (good_of W hsh hL)
theorem said : Rows.LensFitsSaid :=
 OpenClaim.holds_of_cond 5 Tryz.f5 rfl rfl rfl rfl rfl rfl rfl ⟨rfl, rfl, rfl, rfl, rfl⟩ rfl rfl rfl rfl rfl (Kg) Tryz.func5 (Kg)
  (of_decide_eq_true (Kg)) (by unfold Func.isWrapper; first | (rw [if_pos (by decide +kernel)]; kernel_rfl) | (rw [if_neg (by decide +kernel)]; exact ⟨rfl, rfl⟩))
  (fun os started H enc _ F => by rw [OpenClaim.pre_eq_preRow]; exact lifted os started H enc F)
theorem plain (f : FuncId) (fn : Func) (hf : Tryz.pinned.checked.prog.funcNamed "errata/erratalaw14.LensFits" = some f) (hfn : Tryz.pinned.checked.prog.funcs[f]? = some fn) :
  true = Tryz.pinned.checked.prog.looks [] ∧ ∀ (j : Nat) t, fn.params[j]? = some t → Tryz.pinned.checked.prog.wantsStandIn t = false := by
 obtain rfl : f = 5 := Option.some.inj ((show Tryz.prog.funcNamed "errata/erratalaw14.LensFits" = some 5 by kernel_rfl).symm.trans hf) |>.symm
 obtain rfl : fn = Tryz.f5 := (Option.some.inj (Tryz.func5.symm.trans hfn)).symm
 refine ⟨Kg, fun j t ht => ?_⟩
 rw [Tryz.params5] at ht
 have hm : t ∈ [22, 35, 36, 36] := by simpa using Array.mem_of_getElem? ht
 have hall : ∀ t ∈ [22, 35, 36, 36], Tryz.prog.wantsStandIn t = false := by
  intro t ht
  simp only [List.mem_cons, List.mem_nil_iff, or_false] at ht
  rcases ht with rfl | rfl | rfl | rfl
  ·
   kernel_rfl
  ·
   kernel_rfl
  ·
   kernel_rfl
  ·
   kernel_rfl
 exact hall t hm
end Go.Proofs.YtehjelobaflheaaGreatDoor.lensFits
namespace Go.Proofs.YtehjelobaflheaaGreatDoor
open lensFits
theorem lensFits_holds : Rows.LensFitsCardSaid :=
 Claim7.holds_tied_plain_at .later [] _ _ _ _ said (fun _ h => by cases h) (Kg) (fun _ h => by cases h) lensFits_row_tie rfl ⟨rfl, rfl⟩ (Kg) rfl plain (Kg)
#print axioms lensFits_holds
end Go.Proofs.YtehjelobaflheaaGreatDoor
