/- Texts of this claim, merged and cut down: GReVal, GSlCol, GOwnSt, GFwd, LFits, GSRight, GReCol, GOne, GOneD, GRsVal, GInVal, GBwd, GBwdC, GChg. -/
import Derived.Shelf.Spec.SlicesInsert
import Derived.Lib.AppendZerosOnto
import Derived.Deep.RegionHeld3
import Derived.Test.YtehjelobaflheaaGreatDoorKP0
import Derived.Test.YtehjelobaflheaaGreatDoorKP1
set_option linter.unusedVariables false
set_option linter.unusedSimpArgs false
set_option maxHeartbeats 8000000
set_option maxRecDepth 1000000
namespace Go.Proofs.YtehjelobaflheaaGreatDoor.P
open Go.RowKit Go.Proofs.YtehjelobaflheaaGreatDoorW.PrintWords Go.Proofs.YtehjelobaflheaaGreatDoorW.PrintLast Go.Proofs.YtehjelobaflheaaGreatDoorW.PrintMore
theorem replace2EndVal (i n : Nat) (g cap : Nat) (cur : Array Value) (l : List S27) (base : Nat) (w : World) (hbg : base ≤ g) (hg : w.heap[g]? = some (.cells cur 27 (0, 0))) (hn : n = l.length) (hnc : n ≤ cap) (hcm : cap ≤ maxLen) (hcs : cur.size = cap * 3)
  (htake : cur.toList.take (n * 3) = cellsOf JL l) (hi : i + 1 = n) (vb : Nat) (a b : S27) (hv : w.heap[vb]? = some (.cells (JL a ++ JL b).toArray 27 (0, 0))) (hlen : (n + 1) * 32 ≤ 140737488355328) (hbase : base ≤ w.heap.size) :
  Calls Tryz.prog 107 #[.slice (some ⟨g, 0, none⟩) n cap, .int .i64 (i : Int), .int .i64 (n : Int), .slice (some ⟨vb, 0, none⟩) 2 2] w fun e w' => ∃ v0_ : Value, e = .returned v0_ ∧ Kd.R k27 27 w' base (fun _ => True) v0_ (l.take i ++ [a, b]) ∧ Below base w w' := by
 obtain ⟨i0, hi0, hz0, hz1, hz2⟩ := infoVal
 have mixed : Tryz.prog.follows Departure.mixedOrders = true := by kernel_rfl
 have hown : w.ownsRow base 27 3 (.slice (some ⟨g, 0, none⟩) i cap) i (cellsOf JL (l.take i)) := by
  refine ⟨by rw [JI JK, List.length_take]; omega, .inr ⟨g, cap, cur, rfl, hbg, hg, by omega, hcm, hcs, ?_⟩⟩
  rw [← cellsOf_take JK, ← htake, List.take_take, Nat.min_eq_left (by omega)]
 have hsrc : Aside (∀ j u, (JL a ++ JL b)[j]? = some u → w.cell? ((⟨vb, 0, none⟩ : Addr).add j) = some u) := by
  intro j u hu
  rw [Addr.add_lit, cell_of_row w vb _ _ 27 (0, 0) hv, Nat.zero_add]
  simpa using hu
 have HO := JN hown
 have HT := JN (show (l.take i).length = i by rw [List.length_take]; omega)
 have hi1 : i < n := by omega
 have hic : i ≤ cap := by omega
 have hcm' : cap ≤ 9223372036854775807 := by unfold maxLen at hcm; omega
 have heq : ¬ (i = n) := by omega
 clear hown hg hv htake hcs hn
 go_enter Tryz.func107, Tryz.ntmps107
 go_wp2_with (at_builtin; refine wpList_append_own _ rfl _ _ 36 rfl base 27 i0 (.agg (JL z27).toArray) 3 32 Tryz.underlying36 hi0 hz0 hz1 hz2 rfl (by omega) _ _ _ rfl HO.out ⟨vb, 0, none⟩ 2 2 (JL a ++ JL b) rfl ?qc1 ?qc2 ?qc3 ?qc4 ?qc5 ?qc6 ?_)
 case qc1 => rfl
 case qc2 => exact hsrc.out
 case qc3 =>
  intro u hu
  rcases List.mem_append.1 hu with hu | hu
  ·
   exact encVal_one _ _ hu
  ·
   exact encVal_one _ _ hu
 case qc4 => unfold maxLen; omega
 case qc5 => rw [show i + 2 = n + 1 by omega]; exact hlen
 case qc6 => exact hbase
 intro v' w1 hown1 hgrow hnil
 obtain ⟨g1, cap1, cur1, rfl, h1, h2, h3, h4, h5, h6⟩ := own_open hown1 (by omega)
 have HO1 := JN hown1
 have HG := JN hgrow
 have hlt : ¬ ((i : Int) + 2 < n) := by omega
 clear hown1 hgrow hnil h1 h2 h3 h4 h5 h6
 go_wp2
 go_ret
 refine ⟨_, rfl, ?_, ?_⟩
 ·
  refine makeVal (fun _ _ => trivial) ?_
  have := HO1.out
  rw [cellsOf_append, List.length_append, HT.out]
  simpa [cellsOf] using this
 ·
  exact (Below.refl base w).grown HG.out hbase (Jt)
theorem replace2RoomVal (i j n : Nat) (g cap : Nat) (cur : Array Value) (l : List S27) (base : Nat) (w : World) (hbg : base ≤ g) (hg : w.heap[g]? = some (.cells cur 27 (0, 0))) (hn : n = l.length) (hnc : n + 1 ≤ cap) (hcm : cap ≤ maxLen) (hcs : cur.size = cap * 3)
  (htake : cur.toList.take (n * 3) = cellsOf JL l) (hj : j = i + 1) (hi : j < n) (vb : Nat) (a b : S27) (hv : w.heap[vb]? = some (.cells (JL a ++ JL b).toArray 27 (0, 0))) (hne : vb ≠ g) :
  Calls Tryz.prog 107 #[.slice (some ⟨g, 0, none⟩) n cap, .int .i64 (i : Int), .int .i64 (j : Int), .slice (some ⟨vb, 0, none⟩) 2 2] w fun e w' => ∃ v0_ : Value, e = .returned v0_ ∧ Kd.R k27 27 w' base (fun _ => True) v0_ (l.take i ++ [a, b] ++ l.drop j) ∧ Below base w w' := by
 obtain ⟨i0, hi0, hz0, hz1, hz2⟩ := infoVal
 have mixed : Tryz.prog.follows Departure.mixedOrders = true := by kernel_rfl
 have hsz : (Tryz.prog.info? 27).map (·.size) = some 3 := by rw [hi0]; simp [hz1]
 have hz3 : ∀ w, (Go.sizeOf 27).run Tryz.prog w = .ok 3 w := by intro w; simp [Go.sizeOf, typeInfo, hi0, hz1]
 have hcm' : cap ≤ 9223372036854775807 := by unfold maxLen at hcm; omega
 have hshg : w.shape? g = some (27, cur.size) := by simp [World.shape?, hg]
 have hshv : w.shape? vb = some (27, 6) := by simp [World.shape?, hv]
 have hov : ∀ nq lb cb, (callFunc 137 #[.slice (some ⟨g, (i + 2) * 3, none⟩) lb cb, .slice (some ⟨vb, 0, none⟩) 2 2]).run Tryz.prog (w.drewN nq) = .ok (.value (.bool false)) (w.drewN nq) := fun nq lb cb => by
  rw [run_callFunc_extern Tryz.func137 (Kg) (Kg) (Kg) (e := Extern.SlicesOverlaps.overlaps #[36, 36] #[4]) (Kg),
   Lib.run_overlaps_apart (w.drewN nq) 36 4 27 Tryz.underlying36 3 hz3 ⟨g, (i + 2) * 3, none⟩ ⟨vb, 0, none⟩ lb cb 2 2 (Ne.symm hne) 27 27 cur.size 6 hshg hshv (by omega) (row_frozen (w := w.drewN nq) hg _) (row_frozen (w := w.drewN nq) hg _)]
  rfl
 have hi1 : i < n := by omega
 have hij : i < j := by omega
 have heq : ¬ (i = j) := by omega
 have hjn : ¬ (j = n) := by omega
 have hjn' : j ≤ n := by omega
 have hic : i ≤ cap := by omega
 have hjc : j ≤ cap := by omega
 have hnc' : n ≤ cap := by omega
 have HJ := JN hj
 have HN := JN hn
 have hb2 : ¬ ((i : Int) + 2 ≤ (j : Int)) := by omega
 have hw1 : IntKind.i64.wrap ((i : Int) + 2) = (i : Int) + 2 := by rw [IntKind.wrap_i64]; omega
 have hw2 : IntKind.i64.wrap ((i : Int) + 2 + ((n - j : Nat) : Int)) = ((n + 1 : Nat) : Int) := by rw [IntKind.wrap_i64]; omega
 have hb1 : (0 : Int) ≤ (i : Int) + 2 := by omega
 have htn : ((i : Int) + 2).toNat = i + 2 := by omega
 obtain ⟨news, hnews⟩ : ∃ news, news = cellsOf JL (l.drop j) := ⟨_, rfl⟩
 have hnl : news.length = (n - j) * 3 := by rw [hnews, JI JK, List.length_drop, hn]
 have hn1 : ∀ u ∈ news, u.oneCell' = true := by rw [hnews]; exact cellsOf_one encVal_one _
 have hab1 : ∀ u ∈ JL a ++ JL b, u.oneCell' = true := by
  intro u hu
  rcases List.mem_append.1 hu with hu | hu
  ·
   exact encVal_one _ _ hu
  ·
   exact encVal_one _ _ hu
 have hcp1 : ∀ (W : World) (dl : Nat), W.heap[g]? = some (.cells cur 27 (0, 0)) → dl = n - (i + 1) → ∀ ty dc sc, (Builtin.copy_ #[36, 36] ty #[.slice (some ⟨g, (i + 2) * 3, none⟩) dl dc, .slice (some ⟨g, j * 3, none⟩) (n - j) sc]).run Tryz.prog W = .ok (goInt ((n - j : Nat) : Int)) (W.setCells g ((i + 2) * 3) news) := by
  intro W dl hW hdl ty dc sc
  have hmin : Nat.min (n - j) dl = n - j := by rw [hdl, hj]; exact Nat.min_self _
  have := run_copy_k (P := Tryz.prog) W 36 36 ty 27 3 g ((i + 2) * 3) dl dc ⟨g, j * 3, none⟩ (n - j) sc news Tryz.underlying36 hsz (by rw [hmin, hnl]) (fun t u hu => by
    have ht := (List.getElem?_eq_some_iff.1 hu).1
    rw [hnl] at ht
    rw [Addr.add_lit, cell_of_row W g _ cur 27 (0, 0) hW, ← Array.getElem?_toList]
    rw [hnews, ← cellsOf_drop JK, List.getElem?_drop, ← htake, List.getElem?_take_of_lt (by omega)] at hu
    exact hu) (fun t ht => row_cell hW _ (by rw [hnl] at ht; rw [hcs]; omega)) (fun t ht => row_frozen hW _) hn1
  rw [hmin] at this
  exact this
 have hc1 : ∀ W : World, W.heap[g]? = some (.cells cur 27 (0, 0)) → W.setCells g ((i + 2) * 3) news = W.setRow g (cur.toList.take ((i + 2) * 3) ++ news ++ cur.toList.drop ((i + 2) * 3 + news.length)).toArray := fun W hW => row_setCells Tryz.prog hW _ _ (by rw [hnl, hcs]; omega) hn1
 have hs1 : (cur.toList.take ((i + 2) * 3) ++ news ++ cur.toList.drop ((i + 2) * 3 + news.length)).length = cap * 3 := by
  simp only [List.length_append, List.length_take, List.length_drop, Array.length_toList]
  omega
 have hW1g : ∀ W : World, W.heap[g]? = some (.cells cur 27 (0, 0)) → (W.setCells g ((i + 2) * 3) news).heap[g]? = some (.cells (cur.toList.take ((i + 2) * 3) ++ news ++ cur.toList.drop ((i + 2) * 3 + news.length)).toArray 27 (0, 0)) := fun W hW => by
  rw [hc1 W hW]; exact setRow_heap W g cur _ 27 _ hW
 have hW1v : ∀ W : World, W.heap[g]? = some (.cells cur 27 (0, 0)) → W.heap[vb]? = some (.cells (JL a ++ JL b).toArray 27 (0, 0)) → (W.setCells g ((i + 2) * 3) news).heap[vb]? = some (.cells (JL a ++ JL b).toArray 27 (0, 0)) := fun W hW hWv => by
  rw [hc1 W hW, setRow_other _ _ _ _ hne]; exact hWv
 have hcp2 : ∀ (W : World) (c1 : Array Value), W.heap[g]? = some (.cells c1 27 (0, 0)) → c1.size = cap * 3 → W.heap[vb]? = some (.cells (JL a ++ JL b).toArray 27 (0, 0)) → ∀ ty dc, (Builtin.copy_ #[36, 36] ty #[.slice (some ⟨g, i * 3, none⟩) (n + 1 - i) dc, .slice (some ⟨vb, 0, none⟩) 2 2]).run Tryz.prog W = .ok (goInt 2) (W.setCells g (i * 3) (JL a ++ JL b)) := by
  intro W c1 hW hcs1 hWv ty dc
  have hmin : Nat.min 2 (n + 1 - i) = 2 := Nat.min_eq_left (by omega)
  have := run_copy_k (P := Tryz.prog) W 36 36 ty 27 3 g (i * 3) (n + 1 - i) dc ⟨vb, 0, none⟩ 2 2 (JL a ++ JL b) Tryz.underlying36 hsz (by rw [hmin]; rfl) (fun t u hu => by
    rw [Addr.add_lit, cell_of_row W vb _ _ 27 (0, 0) hWv, Nat.zero_add]
    simpa using hu) (fun t ht => row_cell hW _ (by rw [hcs1]; simp [JL] at ht; omega)) (fun t ht => row_frozen hW _) hab1
  rw [hmin] at this
  exact this
 have HV := JN hv
 have hb3 : (i : Int) + 2 ≤ (n : Int) + 1 := by omega
 have hb4 : ¬ (cap = i + 2) := by omega
 have hb5 : ¬ (cap = j) := by omega
 have hb6 : ¬ (cap = i) := by omega
 have hb7 : (i : Int) ≤ (n : Int) + 1 := by omega
 have hcp3 : ∀ q ty dc, (Builtin.copy_ #[36, 36] ty #[.slice (some ⟨g, i * 3, none⟩) (n + 1 - i) dc, .slice (some ⟨vb, 0, none⟩) 2 2]).run Tryz.prog ((w.drewN q).setCells g ((i + 2) * 3) news) = .ok (goInt 2) (((w.drewN q).setCells g ((i + 2) * 3) news).setCells g (i * 3) (JL a ++ JL b)) :=
  fun q ty dc => hcp2 _ _ (hW1g (w.drewN q) hg) (by rw [List.size_toArray]; exact hs1) (hW1v (w.drewN q) hg hv) ty dc
 have hfin : ∀ q, Kd.R k27 27 (((w.drewN q).setCells g ((i + 2) * 3) news).setCells g (i * 3) (JL a ++ JL b)) base (fun _ => True) (.slice (some ⟨g, 0, none⟩) (n + 1) cap) (l.take i ++ [a, b] ++ l.drop j) ∧ Below base w (((w.drewN q).setCells g ((i + 2) * 3) news).setCells g (i * 3) (JL a ++ JL b)) := by
  intro q
  have hr1 := hc1 (w.drewN q) hg
  have hg1 := hW1g (w.drewN q) hg
  have hel : (JL a ++ JL b).length = 6 := rfl
  have hr2 := row_setCells Tryz.prog hg1 (i * 3) (JL a ++ JL b) (by rw [List.size_toArray, hs1, hel]; omega) hab1
  have hll : (l.take i ++ [a, b] ++ l.drop j).length = n + 1 := by simp only [List.length_append, List.length_take, List.length_drop, List.length_cons, List.length_nil]; omega
  have hti : cur.toList.take (i * 3) = cellsOf JL (l.take i) := by
   rw [← cellsOf_take JK, ← htake, List.take_take, Nat.min_eq_left (by omega)]
  have hctl : cur.toList.length = cap * 3 := by rw [Array.length_toList, hcs]
  have ht1 : (cur.toList.take ((i + 2) * 3) ++ news ++ cur.toList.drop ((i + 2) * 3 + news.length)).take (i * 3) = cellsOf JL (l.take i) := by
   rw [List.append_assoc, List.take_append_of_le_length (by rw [List.length_take, hctl]; omega), List.take_take, Nat.min_eq_left (by omega), hti]
  have hd1 : (cur.toList.take ((i + 2) * 3) ++ news ++ cur.toList.drop ((i + 2) * 3 + news.length)).drop (i * 3 + 6) = news ++ cur.toList.drop ((i + 2) * 3 + news.length) := by
   rw [List.append_assoc, List.drop_left' (by rw [List.length_take, hctl]; omega)]
  have hb1 : Below base w ((w.drewN q).setCells g ((i + 2) * 3) news) := by
   rw [hr1]
   exact ⟨rfl, rfl, rfl, by simp [World.setRow, World.drewN], fun k hk => by rw [setRow_other _ _ _ _ (by omega)]; rfl⟩
  refine ⟨makeVal (fun _ _ => trivial) ⟨JI JK _, .inr ⟨g, cap, _, by rw [hll], hbg, by rw [hr2]; exact setRow_heap _ g _ _ 27 _ hg1, by rw [hll]; exact hnc, hcm, ?_, ?_⟩⟩, ?_⟩
  ·
   simp only [List.size_toArray, List.toList_toArray, List.length_append, List.length_take, List.length_drop, hctl, hnl, JK]
   omega
  ·
   rw [hll, List.toList_toArray, List.toList_toArray, ht1, hel, hd1, ← List.append_assoc, cellsOf_append, cellsOf_append, ← hnews]
   have hab : cellsOf JL [a, b] = JL a ++ JL b := by simp [cellsOf]
   rw [hab, List.take_left']
   simp only [List.length_append, JI JK, List.length_take, hnl, JK]
   omega
  ·
   rw [hr2]
   exact hb1.trans ⟨rfl, rfl, rfl, by simp [World.setRow], fun k hk => setRow_other _ _ _ _ (by omega)⟩
 have HFIN := JN hfin
 have HG := JN hg
 have HT := JN htake
 have HNL := JN hnl
 have HNE := JN hnews
 have HS1 := JN hs1
 have HC1 := JN hc1
 have HW1 := JN hW1g
 have HCP1 := JN hcp1
 have HCP2 := JN hcp2
 have HW2 := JN hW1v
 have HCS := JN hcs
 clear hfin hj hn hg htake hnl hnews hs1 hc1 hW1g hcp1 hcp2 hW1v hcs hv
 go_enter Tryz.func107, Tryz.ntmps107
 go_wp2_with (simp only [hov])
 go_quiet (fail)
 go_wp2_with (simp only [hov])
 go_region_law_o (refine step_copy_runI rfl _ _ 36 36 rfl (.slice (some ⟨g, (i + 2) * 3, none⟩) (n - (i + 1)) (cap - (i + 2))) (.slice (some ⟨g, j * 3, none⟩) (n - j) (cap - j)) (Je) (Je) (HCP1.out _ _ (by exact HG.out) rfl _ _ _) ?_)
 go_wp2
 go_ret
 exact ⟨.slice (some ⟨g, 0, none⟩) (n + 1) cap, rfl, (HFIN.out _).1, (HFIN.out _).2⟩
theorem replace2GrowVal (i j n : Nat) (g cap : Nat) (cur : Array Value) (l : List S27) (base : Nat) (w : World) (hbg : base ≤ g) (hg : w.heap[g]? = some (.cells cur 27 (0, 0))) (hn : n = l.length) (hnc : n ≤ cap) (hroom : cap < n + 1) (hcs : cur.size = cap * 3)
  (htake : cur.toList.take (n * 3) = cellsOf JL l) (hj : j = i + 1) (hi : j < n) (vb : Nat) (a b : S27) (hv : w.heap[vb]? = some (.cells (JL a ++ JL b).toArray 27 (0, 0))) (hlen : (n + 1) * 32 ≤ 140737488355328) (hbase : base ≤ w.heap.size) :
  Calls Tryz.prog 107 #[.slice (some ⟨g, 0, none⟩) n cap, .int .i64 (i : Int), .int .i64 (j : Int), .slice (some ⟨vb, 0, none⟩) 2 2] w fun e w' => ∃ v0_ : Value, e = .returned v0_ ∧ Kd.R k27 27 w' base (fun _ => True) v0_ (l.take i ++ [a, b] ++ l.drop j) ∧ Below base w w' := by
 obtain ⟨i0, hi0, hz0, hz1, hz2⟩ := infoVal
 have mixed : Tryz.prog.follows Departure.mixedOrders = true := by kernel_rfl
 have hsz : (Tryz.prog.info? 27).map (·.size) = some 3 := by rw [hi0]; simp [hz1]
 have hctl : cur.toList.length = cap * 3 := by rw [Array.length_toList, hcs]
 have hti : cur.toList.take (i * 3) = cellsOf JL (l.take i) := by
  rw [← cellsOf_take JK, ← htake, List.take_take, Nat.min_eq_left (by omega)]
 have hold : ∀ q, (Builtin.firstCells i0.size i (.slice (some ⟨g, 0, none⟩) i cap)).run Tryz.prog (w.drewN q).drew = .ok (cellsOf JL (l.take i)).toArray (w.drewN q).drew := by
  intro q
  rw [hz1]
  refine run_firstCells_some (w.drewN q).drew 3 i ⟨g, 0, none⟩ i cap _ (by rw [JI JK, List.length_take]; omega) (fun t u hu => ?_)
  have ht := (List.getElem?_eq_some_iff.1 hu).1
  rw [← hti, List.length_take] at ht
  rw [Addr.add_lit, cell_of_row (w.drewN q).drew g _ cur 27 (0, 0) hg, ← Array.getElem?_toList, Nat.zero_add]
  rw [← hti, List.getElem?_take_of_lt (by omega)] at hu
  exact hu
 obtain ⟨ROW, hROW⟩ : ∃ ROW : Nat → Array Value, ∀ q, ROW q = (cellsOf JL (l.take i)).toArray ++ Builtin.zeroCells (Value.agg (JL z27).toArray).cells (n + 1 - i) ++ Builtin.zeroCells (Value.agg (JL z27).toArray).cells (grownCap (w.drewN q) (n + 1) cap 27 - (n + 1)) := ⟨fun q => _, fun q => rfl⟩
 have hrz : ∀ q ty, (Builtin.append_ #[36, 3] ty #[.slice (some ⟨g, 0, none⟩) i cap, .int .i64 ((n : Int) + 1 - (i : Int))]).run Tryz.prog (w.drewN q) =
   .ok (.slice (some ⟨w.heap.size, 0, none⟩) (n + 1) (grownCap (w.drewN q) (n + 1) cap 27)) ((w.drewN q).drew.alloc (.cells (ROW q) 27)) := fun q ty => by
  have h := Lib.run_append_grow_zeros (P := Tryz.prog) (w.drewN q) 36 3 ty 27 i0 _ .i64 .i64 Tryz.underlying36 Tryz.underlying3 hi0 hz0 (some ⟨g, 0, none⟩) i cap _ (hold q) (n + 1 - i) (by omega) (by omega) (by omega) (by omega) (by rw [hz2]; omega) (by rw [hz2, show i + (n + 1 - i) = n + 1 by omega]; exact growslice_fits hroom hlen)
  rw [show i + (n + 1 - i) = n + 1 by omega] at h
  rw [show (n : Int) + 1 - (i : Int) = ((n + 1 - i : Nat) : Int) by omega, hROW]
  exact h
 have hi1 : i < n := by omega
 have hij : i < j := by omega
 have heq : ¬ (i = j) := by omega
 have hjn : ¬ (j = n) := by omega
 have hjn' : j ≤ n := by omega
 have hic : i ≤ cap := by omega
 have hjc : j ≤ cap := by omega
 have hcm' : cap ≤ 9223372036854775807 := by omega
 have hw1 : IntKind.i64.wrap ((i : Int) + 2) = (i : Int) + 2 := by rw [IntKind.wrap_i64]; omega
 have hw2 : IntKind.i64.wrap ((i : Int) + 2 + ((n - j : Nat) : Int)) = ((n + 1 : Nat) : Int) := by rw [IntKind.wrap_i64]; omega
 have hw3 : IntKind.i64.wrap ((n : Int) + 1 - (i : Int)) = (n : Int) + 1 - (i : Int) := by rw [IntKind.wrap_i64]; omega
 have hb0 : (cap : Int) < (n : Int) + 1 := by omega
 have hb1 : (0 : Int) ≤ (i : Int) + 2 := by omega
 have htn : ((i : Int) + 2).toNat = i + 2 := by omega
 have hG1 : ∀ q, ¬ (grownCap (w.drewN q) (n + 1) cap 27 = i) := fun q h => by have := grownCap_ge (w.drewN q) (n + 1) cap 27; omega
 have hG2 : ∀ q, ¬ (grownCap (w.drewN q) (n + 1) cap 27 = i + 2) := fun q h => by have := grownCap_ge (w.drewN q) (n + 1) cap 27; omega
 have hG3 : ∀ q, n + 1 ≤ grownCap (w.drewN q) (n + 1) cap 27 := fun q => grownCap_ge _ _ _ _
 have hG4 : ∀ q, grownCap (w.drewN q) (n + 1) cap 27 ≤ 9223372036854775807 := fun q => by
  have := grownCap_le_maxLen (w.drewN q) (n + 1) cap 27 (by unfold maxLen; omega)
  unfold maxLen at this; omega
 have hb5 : ¬ (cap = j) := by omega
 have hb6 : ¬ (cap = i) := by omega
 have hb7 : (i : Int) ≤ (n : Int) + 1 := by omega
 have hb3 : (i : Int) + 2 ≤ (n : Int) + 1 := by omega
 have hgw : g < w.heap.size := (Array.getElem?_eq_some_iff.1 hg).1
 have hvw : vb < w.heap.size := (Array.getElem?_eq_some_iff.1 hv).1
 obtain ⟨news, hnews⟩ : ∃ news, news = cellsOf JL (l.drop j) := ⟨_, rfl⟩
 have hnl : news.length = (n - j) * 3 := by rw [hnews, JI JK, List.length_drop, hn]
 have hn1 : ∀ u ∈ news, u.oneCell' = true := by rw [hnews]; exact cellsOf_one encVal_one _
 obtain ⟨ab, hab⟩ : ∃ ab, ab = JL a ++ JL b := ⟨_, rfl⟩
 have habl : ab.length = 6 := by rw [hab]; rfl
 rw [← hab] at hv
 have hab1 : ∀ u ∈ ab, u.oneCell' = true := by
  intro u hu
  rw [hab] at hu
  rcases List.mem_append.1 hu with hu | hu
  ·
   exact encVal_one _ _ hu
  ·
   exact encVal_one _ _ hu
 have hzs : (Value.agg (JL z27).toArray).cells.size = 3 := rfl
 have hrs : ∀ q, (ROW q).size = grownCap (w.drewN q) (n + 1) cap 27 * 3 := fun q => by
  have := hG3 q
  rw [hROW, Array.size_append, Array.size_append, size_zeroCells, size_zeroCells, hzs, List.size_toArray, JI JK, List.length_take]
  omega
 have hcpA : ∀ q r ty dc, (Builtin.copy_ #[36, 36] ty #[.slice (some ⟨w.heap.size, i * 3, none⟩) (n + 1 - i) dc, .slice (some ⟨vb, 0, none⟩) 2 2]).run Tryz.prog ((w.drewN r).alloc (.cells (ROW q) 27)) = .ok (goInt 2) (((w.drewN r).alloc (.cells (ROW q) 27)).setCells w.heap.size (i * 3) ab) := by
  intro q r ty dc
  have hmin : Nat.min 2 (n + 1 - i) = 2 := Nat.min_eq_left (by omega)
  have hW : ((w.drewN r).alloc (.cells (ROW q) 27)).heap[w.heap.size]? = some (.cells (ROW q) 27 (0, 0)) := heap_alloc_new (w.drewN r) _
  have hWv : ((w.drewN r).alloc (.cells (ROW q) 27)).heap[vb]? = some (.cells ab.toArray 27 (0, 0)) := (heap_alloc_old (w.drewN r) _ hvw).trans hv
  have := run_copy_k (P := Tryz.prog) ((w.drewN r).alloc (.cells (ROW q) 27)) 36 36 ty 27 3 w.heap.size (i * 3) (n + 1 - i) dc ⟨vb, 0, none⟩ 2 2 ab Tryz.underlying36 hsz (by rw [hmin, habl]) (fun t u hu => by
    rw [Addr.add_lit, cell_of_row _ vb _ _ 27 (0, 0) hWv, Nat.zero_add]
    simpa using hu) (fun t ht => row_cell hW _ (by have := hG3 q; rw [hrs]; rw [habl] at ht; omega)) (fun t ht => row_frozen hW _) hab1
  rw [hmin] at this
  exact this
 have hcpB : ∀ (W : World) (c2 : Array Value) (dl : Nat), W.heap[w.heap.size]? = some (.cells c2 27 (0, 0)) → (n + 1) * 3 ≤ c2.size → W.heap[g]? = some (.cells cur 27 (0, 0)) → dl = n - (i + 1) → ∀ ty dc sc, (Builtin.copy_ #[36, 36] ty #[.slice (some ⟨w.heap.size, (i + 2) * 3, none⟩) dl dc, .slice (some ⟨g, j * 3, none⟩) (n - j) sc]).run Tryz.prog W = .ok (goInt ((n - j : Nat) : Int)) (W.setCells w.heap.size ((i + 2) * 3) news) := by
  intro W c2 dl hW hc2 hWg hdl ty dc sc
  have hmin : Nat.min (n - j) dl = n - j := by rw [hdl, hj]; exact Nat.min_self _
  have := run_copy_k (P := Tryz.prog) W 36 36 ty 27 3 w.heap.size ((i + 2) * 3) dl dc ⟨g, j * 3, none⟩ (n - j) sc news Tryz.underlying36 hsz (by rw [hmin, hnl]) (fun t u hu => by
    have ht := (List.getElem?_eq_some_iff.1 hu).1
    rw [hnl] at ht
    rw [Addr.add_lit, cell_of_row W g _ cur 27 (0, 0) hWg, ← Array.getElem?_toList]
    rw [hnews, ← cellsOf_drop JK, List.getElem?_drop, ← htake, List.getElem?_take_of_lt (by omega)] at hu
    exact hu) (fun t ht => row_cell hW _ (by rw [hnl] at ht; omega)) (fun t ht => row_frozen hW _) hn1
  rw [hmin] at this
  exact this
 have hW1 : ∀ q r, ((w.drewN r).alloc (.cells (ROW q) 27)).setCells w.heap.size (i * 3) ab = ((w.drewN r).alloc (.cells (ROW q) 27)).setRow w.heap.size ((ROW q).toList.take (i * 3) ++ ab ++ (ROW q).toList.drop (i * 3 + ab.length)).toArray := fun q r =>
  row_setCells Tryz.prog (heap_alloc_new (w.drewN r) _) _ _ (by have := hG3 q; rw [hrs, habl]; omega) hab1
 have hs1 : ∀ q, ((ROW q).toList.take (i * 3) ++ ab ++ (ROW q).toList.drop (i * 3 + ab.length)).length = grownCap (w.drewN q) (n + 1) cap 27 * 3 := fun q => by
  have := hG3 q
  have := hrs q
  rw [← Array.length_toList] at this
  simp only [List.length_append, List.length_take, List.length_drop, habl]
  omega
 have hWg : ∀ q r, (((w.drewN r).alloc (.cells (ROW q) 27)).setCells w.heap.size (i * 3) ab).heap[w.heap.size]? = some (.cells ((ROW q).toList.take (i * 3) ++ ab ++ (ROW q).toList.drop (i * 3 + ab.length)).toArray 27 (0, 0)) := fun q r => by
  rw [hW1]; exact setRow_heap _ _ (ROW q) _ 27 _ (heap_alloc_new (w.drewN r) _)
 have hWo : ∀ q r k, k < w.heap.size → (((w.drewN r).alloc (.cells (ROW q) 27)).setCells w.heap.size (i * 3) ab).heap[k]? = w.heap[k]? := fun q r k hk => by
  rw [hW1, setRow_other _ _ _ _ (by omega)]; exact heap_alloc_old (w.drewN r) _ hk
 have hfin : ∀ q r, Kd.R k27 27 ((((w.drewN r).alloc (.cells (ROW q) 27)).setCells w.heap.size (i * 3) ab).drew.setCells w.heap.size ((i + 2) * 3) news) base (fun _ => True) (.slice (some ⟨w.heap.size, 0, none⟩) (n + 1) (grownCap (w.drewN q) (n + 1) cap 27)) (l.take i ++ [a, b] ++ l.drop j) ∧ Below base w ((((w.drewN r).alloc (.cells (ROW q) 27)).setCells w.heap.size (i * 3) ab).drew.setCells w.heap.size ((i + 2) * 3) news) := by
  intro q r
  have hg3 := hG3 q
  have hg1 : ((((w.drewN r).alloc (.cells (ROW q) 27)).setCells w.heap.size (i * 3) ab).drew).heap[w.heap.size]? = _ := hWg q r
  have hs := hs1 q
  have hr2 := row_setCells Tryz.prog hg1 ((i + 2) * 3) news (by rw [List.size_toArray, hs, hnl]; omega) hn1
  have hrl : (ROW q).toList.length = grownCap (w.drewN q) (n + 1) cap 27 * 3 := by rw [Array.length_toList, hrs]
  have hll : (l.take i ++ [a, b] ++ l.drop j).length = n + 1 := by simp only [List.length_append, List.length_take, List.length_drop, List.length_cons, List.length_nil]; omega
  have hlt : (l.take i).length = i := by rw [List.length_take]; omega
  have hrt : (ROW q).toList.take (i * 3) = cellsOf JL (l.take i) := by
   rw [hROW, Array.toList_append, Array.toList_append, List.append_assoc, List.take_left']
   rw [List.toList_toArray, JI JK, hlt]
  have ht1 : ((ROW q).toList.take (i * 3) ++ ab ++ (ROW q).toList.drop (i * 3 + ab.length)).take ((i + 2) * 3) = cellsOf JL (l.take i) ++ ab := by
   rw [hrt, List.take_left']
   rw [List.length_append, JI JK, hlt, habl]; omega
  refine ⟨makeVal (fun _ _ => trivial) ⟨JI JK _, .inr ⟨w.heap.size, grownCap (w.drewN q) (n + 1) cap 27, _, by rw [hll], hbase, by rw [hr2]; exact setRow_heap _ _ _ _ 27 _ hg1, by rw [hll]; exact hg3, grownCap_le_maxLen _ _ _ _ (by unfold maxLen; omega), ?_, ?_⟩⟩, ?_⟩
  ·
   have hs' : ((ROW q).toList.take (i * 3) ++ ab ++ (ROW q).toList.drop (i * 3 + ab.length)).toArray.toList.length = grownCap (w.drewN q) (n + 1) cap 27 * 3 := by rw [List.toList_toArray]; exact hs
   generalize ((ROW q).toList.take (i * 3) ++ ab ++ (ROW q).toList.drop (i * 3 + ab.length)).toArray.toList = c1 at hs' ⊢
   simp only [List.size_toArray, List.length_append, List.length_take, List.length_drop, hs', hnl]
   omega
  ·
   rw [hll, List.toList_toArray, List.toList_toArray, ht1, cellsOf_append, cellsOf_append, ← hnews]
   have hab2 : cellsOf JL [a, b] = ab := by rw [hab]; simp [cellsOf]
   rw [hab2, List.take_left']
   rw [List.length_append, List.length_append, JI JK, hlt, habl, hnl]
   omega
  ·
   rw [hr2]
   exact ⟨by rw [hW1]; rfl, by rw [hW1]; rfl, by rw [hW1]; rfl, by rw [hW1]; simp [World.setRow, World.drewN, World.drew, World.alloc], fun k hk => by rw [setRow_other _ _ _ _ (by omega)]; exact hWo q r k (by omega)⟩
 have HFIN := JN hfin
 have HWG := JN hWg
 have HWO := JN hWo
 have HS1 := JN hs1
 have HGG := JN hg
 have HRZ := JN hrz
 have HCPB := JN hcpB
 clear hold hrz hj hn hg hv htake hcs hctl hti hROW hcpB hnews hrs hnl hab1 hn1 hab habl hW1 hs1 hWg hWo hfin
 go_enter Tryz.func107, Tryz.ntmps107
 go_wp2
 go_quiet (fail)
 go_wp2_with (at_builtin; refine Lib.wpList_append_run _ rfl _ _ _ _ rfl _ _ rfl rfl _ _ (HRZ.out _ _) ?_)
 go_region_law_o (refine step_copy_runI rfl _ _ 36 36 rfl (.slice (some ⟨w.heap.size, (i + 2) * 3, none⟩) (n - (i + 1)) (grownCap (w.drewN nq) (n + 1) cap 27 - (i + 2))) (.slice (some ⟨g, j * 3, none⟩) (n - j) (cap - j)) (Je) (Je) (HCPB.out _ _ _ (by exact HWG.out nq _) (by rw [List.size_toArray, HS1.out]; have := hG3 nq; omega) (by exact (HWO.out nq _ g hgw).trans HGG.out) rfl _ _ _) ?_)
 go_wp2
 go_ret
 exact ⟨_, rfl, (HFIN.out nq _).1, (HFIN.out nq _).2⟩
theorem replace2Val (x y : Int) (v : Value) (l : List S27) (base : Nat) (w : World) (ho : Kd.R k27 27 w base (fun _ => True) v l) (h0 : 0 ≤ x) (h1 : x < l.length) (hy : y = x + 1) (vb : Nat) (a b : S27) (hv : w.heap[vb]? = some (.cells (JL a ++ JL b).toArray 27 (0, 0))) (hne : some vb ≠ v.ownBlock) (hlen : (l.length + 1) * 32 ≤ 140737488355328) (hbase : base ≤ w.heap.size) :
  Calls Tryz.prog 107 #[v, .int .i64 x, .int .i64 y, .slice (some ⟨vb, 0, none⟩) 2 2] w fun e w' => ∃ v0_ : Value, e = .returned v0_ ∧ Kd.R k27 27 w' base (fun _ => True) v0_ (l.take x.toNat ++ [a, b] ++ l.drop (x.toNat + 1)) ∧ Below base w w' := by
 obtain ⟨hok, hown⟩ := openVal ho
 obtain ⟨g, cap, cur, rfl, hbg, hg, hnc, hcm, hcs, htake⟩ := own_open hown (by omega)
 obtain ⟨i, rfl⟩ : ∃ i : Nat, x = i := ⟨x.toNat, by omega⟩
 obtain ⟨j, rfl⟩ : ∃ j : Nat, y = j := ⟨y.toNat, by omega⟩
 have hj : j = i + 1 := by omega
 rw [Int.toNat_natCast]
 have hne' : vb ≠ g := fun e => hne (by rw [e]; rfl)
 by_cases he : j = l.length
 ·
  have := replace2EndVal i j g cap cur l base w hbg hg he (by omega) hcm hcs (by rw [he]; exact htake) (by omega) vb a b hv (by rw [he]; exact hlen) hbase
  rw [← he, List.drop_of_length_le (show l.length ≤ i + 1 by omega), List.append_nil]
  exact this
 ·
  rw [← hj]
  by_cases hr : l.length + 1 ≤ cap
  ·
   exact replace2RoomVal i j l.length g cap cur l base w hbg hg rfl hr hcm hcs htake hj (by omega) vb a b hv hne'
  ·
   exact replace2GrowVal i j l.length g cap cur l base w hbg hg rfl hnc (by omega) hcs htake hj (by omega) vb a b hv hlen hbase
abbrev encCol (x : S53) : List Value := [.string x.f0, .int .i64 x.f1, .string x.f2]
theorem encCol_len (x : S53) : (encCol x).length = 3 := rfl
theorem encCol_one (x : S53) (u : Value) (h : u ∈ encCol x) : u.oneCell' = true := by
 simp [encCol] at h
 rcases h with rfl | rfl | rfl <;> rfl
theorem openCol {w : World} {base : Nat} {ok : Nat → Prop} {v : Value} {l : List S53} (h : Kd.R k53 53 w base ok v l) : (∀ k, v.ownBlock = some k → ok k) ∧ w.ownsRow base 53 3 v l.length (cellsOf encCol l) := by
 obtain ⟨hok, inner, hown, hr⟩ := h
 have := reps_cells (enc := encCol) (fun x c hc => k53_openM hc) l inner hr
 rw [← this]
 exact ⟨hok, hown⟩
theorem makeCol {w : World} {base : Nat} {ok : Nat → Prop} {v : Value} {l : List S53} (hok : ∀ k, v.ownBlock = some k → ok k) (h : w.ownsRow base 53 3 v l.length (cellsOf encCol l)) : Kd.R k53 53 w base ok v l :=
 ⟨hok, _, h, reps_of_cells encCol_len (fun x => k53_mkM _ _ _ x) l⟩
theorem readsCol {w : World} {A : Option Addr} {l : List S53} (h : Kd.C k53 w A l.length l) (hn : 0 < l.length) : ∃ ad, A = some ad ∧ ∀ j u, (cellsOf encCol l)[j]? = some u → w.cell? (ad.add j) = some u := by
 obtain ⟨ad, hA, hc⟩ := h.2.2 (by omega)
 subst hA
 obtain ⟨inner, hr, hi⟩ := ReadsRow.inner_ h
 have := reps_cells (enc := encCol) (fun x c hc => k53_open hc) l inner hr
 rw [← this]
 exact ⟨ad, rfl, hi⟩
theorem infoCol : ∃ i, Tryz.prog.info? 53 = some i ∧ i.zero = some (.agg (encCol z53).toArray) ∧ i.size = 3 ∧ i.bytes = 40 := by
 have h := info53
 cases hi : Tryz.prog.info? 53 with
 | none => rw [hi] at h; cases h
 | some i =>
  rw [hi] at h
  simp at h
  exact ⟨i, rfl, h.1, h.2.1, h.2.2⟩
theorem deleteCol (x y : Int) (v : Value) (l : List S53) (base : Nat) (ok : Nat → Prop) (w : World) (ho : Kd.R k53 53 w base ok v l) (h0 : 0 ≤ x) (h1 : x < l.length) (hy : y = x + 1) :
  Calls Tryz.prog 48 #[v, .int .i64 x, .int .i64 y] w fun e w' => ∃ v0_ : Value, e = .returned v0_ ∧ v0_.ownBlock = v.ownBlock ∧ Kd.R k53 53 w' base ok v0_ (l.eraseIdx x.toNat) ∧ Below base w w' := by
 obtain ⟨hok, hown⟩ := openCol ho
 obtain ⟨g, cap, cur, rfl, hbg, hg, hnc, hcm, hcs, htake⟩ := own_open hown (by omega)
 obtain ⟨i0, hi0, hz0, hz1, hz2⟩ := infoCol
 obtain ⟨i, rfl⟩ : ∃ i : Nat, x = i := ⟨x.toNat, by omega⟩
 obtain ⟨j, rfl⟩ : ∃ j : Nat, y = j := ⟨y.toNat, by omega⟩
 have hil : i < l.length := by omega
 have hji : j = i + 1 := by omega
 clear hy
 have hcm' : cap ≤ 9223372036854775807 := by unfold maxLen at hcm; omega
 clear ho hown
 obtain ⟨news, hnews⟩ : ∃ news, news = cellsOf encCol (l.drop j) := ⟨_, rfl⟩
 have hlen : news.length = (l.length - j) * 3 := by rw [hnews, JI encCol_len, List.length_drop]
 have hcell : ∀ j, j < l.length * 3 → ∀ u, (cellsOf encCol l)[j]? = some u → w.cell? ⟨g, j, none⟩ = some u := by
  intro j hj u hu
  rw [cell_of_row w g j cur 53 (0, 0) hg, ← Array.getElem?_toList]
  rw [← htake, List.getElem?_take_of_lt hj] at hu
  exact hu
 obtain ⟨A, hA, hsrc⟩ : ∃ A : Addr, (if cap = j then some (⟨g, 0, none⟩ : Addr) else some ⟨g, j * 3, none⟩) = some A ∧ Hid (∀ t u, news[t]? = some u → w.drew.cell? (A.add t) = some u) := by
  by_cases h : cap = j
  ·
   refine ⟨⟨g, 0, none⟩, by simp [h], fun t u hu => ?_⟩
   have h0 : news.length = 0 := by rw [hlen, show l.length - j = 0 by omega]
   rw [List.length_eq_zero_iff.1 h0] at hu
   simp at hu
  ·
   refine ⟨⟨g, j * 3, none⟩, by simp [h], fun t u hu => ?_⟩
   have ht := (List.getElem?_eq_some_iff.1 hu).1
   rw [hlen] at ht
   rw [Addr.add_lit]
   refine hcell _ (by omega) u ?_
   rw [hnews, ← cellsOf_drop encCol_len, List.getElem?_drop] at hu
   exact hu
 have s2 : Hid (∀ u ∈ news, u.oneCell' = true) := by
  rw [hnews]; exact cellsOf_one encCol_one _
 have s3 : Hid (∀ t, t < news.length → (w.drew.cell? ⟨g, 0 + i * 3 + t, none⟩).isSome = true ∧ w.drew.frozen? ⟨g, 0 + i * 3 + t, none⟩ = false) := by
  intro t ht
  rw [hlen] at ht
  exact ⟨row_cell (w := w) hg _ (by rw [hcs]; omega), row_frozen (w := w) hg _⟩
 obtain ⟨W1, hW1⟩ : ∃ W1, W1 = w.drew.setCells g (0 + i * 3) news := ⟨_, rfl⟩
 have hfit : i * 3 + news.length ≤ cur.size := by rw [hlen, hcs]; omega
 have hr1 : W1 = w.drew.setRow g (cur.toList.take (i * 3) ++ news ++ cur.toList.drop (i * 3 + news.length)).toArray := by
  rw [hW1, Nat.zero_add]
  exact row_setCells Tryz.prog (w := w.drew) hg _ _ hfit s2.out
 have hg1 : W1.heap[g]? = some (.cells (cur.toList.take (i * 3) ++ news ++ cur.toList.drop (i * 3 + news.length)).toArray 53 (0, 0)) := by rw [hr1]; exact setRow_heap w.drew g cur _ 53 _ hg
 have hcs1 : (cur.toList.take (i * 3) ++ news ++ cur.toList.drop (i * 3 + news.length)).toArray.size = cur.size := by
  simp only [List.size_toArray, List.length_append, List.length_take, List.length_drop, Array.length_toList]
  omega
 have hzc : (Value.agg (encCol z53).toArray).cells.size = 3 := rfl
 have hzl : (Builtin.zeroCells (Value.agg (encCol z53).toArray).cells 1).toList = encCol z53 := by simp [Builtin.zeroCells, Value.cells]; rfl
 have hz1c : ∀ u ∈ (Builtin.zeroCells (Value.agg (encCol z53).toArray).cells 1).toList, u.oneCell' = true := by rw [hzl]; exact encCol_one _
 have hzv : ∀ w, (zeroValue 53).run Tryz.prog w = .ok (Value.agg (encCol z53).toArray) w := by intro w; simp [zeroValue, typeInfo, hi0, hz0]
 have hcl : ∀ ty, (Builtin.clear_ #[35] ty #[.slice (some ⟨g, (i + (l.length - j)) * 3, none⟩) (l.length - (i + (l.length - j))) (cap - (i + (l.length - j)))]).run Tryz.prog W1 = .ok (.tuple #[]) (W1.setCells g ((i + (l.length - j)) * 3) (encCol z53)) := by
  intro ty
  rw [show l.length - (i + (l.length - j)) = 1 by omega, ← hzl]
  exact run_clear_k W1 _ _ ty _ 3 Tryz.underlying35 hzv hzc g _ 1 _ (by omega) (fun t ht => row_cell hg1 _ (by rw [hcs1, hcs]; omega)) (fun t ht => row_frozen hg1 _) hz1c
 have X : Aside (W1 = w.drew.setRow g (cur.toList.take (i * 3) ++ news ++ cur.toList.drop (i * 3 + news.length)).toArray) := hr1
 have hW : Hid (W1 = w.drew.setCells g (0 + i * 3) news) := hW1
 have HN := JN hlen
 have HNE := JN hnews
 have HT := JN htake
 have HG := JN hg
 have HG1 := JN hg1
 have HCS := JN hcs
 have HOK := JN hok
 have s1 : Hid (news.length = (l.length - j) * 3) := hlen
 have hic : i ≤ cap := by omega
 have hjc : j ≤ cap := by omega
 have hjl : j ≤ l.length := by omega
 have HJ := JN hji
 have heq : ¬ (i = j) := by omega
 have hij : i ≤ j := by omega
 have hlt : i < j := by omega
 clear hW1 hr1 hg1 hg hnews hlen hcell htake hok hcs hcs1 hfit hzl hz1c hzv hzc hji h0 h1
 have mixed : Tryz.prog.follows Departure.mixedOrders = true := by kernel_rfl
 go_enter Tryz.func48, Tryz.ntmps48
 go_wp2_with fail
 go_region_law_o (refine step_append_room rfl (.tmp 22) (.tmp 25) 35 rfl 53 i0 3 Tryz.underlying35 hi0 hz1 g 0 i cap (Je) A (l.length - j) (cap - j) news (Je) s1.out hsrc.out s2.out (by omega) s3.out ?_; rw [← hW.out])
 go_wp2
 go_ret
 have hji := HJ.out
 have hlen := HN.out
 have hcs := HCS.out
 have hg := HG.out
 have hg1 := HG1.out
 have he : l.eraseIdx i = l.take i ++ l.drop j := by rw [List.eraseIdx_eq_take_drop_succ, hji]
 have hel : (l.eraseIdx i).length = i + (l.length - j) := by rw [he, List.length_append, List.length_take, List.length_drop]; omega
 have hc1 : (cur.toList.take (i * 3) ++ news ++ cur.toList.drop (i * 3 + news.length)).take ((i + (l.length - j)) * 3) = cellsOf encCol (l.eraseIdx i) := by
  have hti : cur.toList.take (i * 3) = cellsOf encCol (l.take i) := by
   rw [← cellsOf_take encCol_len, ← HT.out, List.take_take, Nat.min_eq_left (by omega)]
  rw [List.take_left' (by rw [List.length_append, List.length_take, Array.length_toList, hlen]; omega), hti, HNE.out, ← cellsOf_append, he]
 have hs1 : (cur.toList.take (i * 3) ++ news ++ cur.toList.drop (i * 3 + news.length)).length = cap * 3 := by
  simp only [List.length_append, List.length_take, List.length_drop, Array.length_toList]
  omega
 have hr2 : W1.setCells g ((i + (l.length - j)) * 3) (encCol z53) = W1.setRow g _ := row_setCells Tryz.prog hg1 _ _ (by rw [List.size_toArray, hs1, encCol_len]; omega) (encCol_one _)
 have hb : Below base w W1 := by
  rw [X.out]
  exact ⟨rfl, rfl, rfl, by simp [World.setRow], fun k hk => by rw [setRow_other _ _ _ _ (by omega)]; rfl⟩
 have hok := HOK.out
 clear X HG1 HG HOK HT HNE HN HCS HJ hg hW hsrc s1 s2 s3 hcl
 generalize cur.toList.take (i * 3) ++ news ++ cur.toList.drop (i * 3 + news.length) = c1 at *
 refine ⟨.slice (some ⟨g, 0, none⟩) (i + (l.length - j)) cap, rfl, rfl, ?_, ?_⟩
 ·
  rw [Int.toNat_natCast, hr2]
  refine makeCol hok ⟨JI encCol_len _, .inr ⟨g, cap, _, by rw [hel], hbg, setRow_heap W1 g _ _ 53 _ hg1, by rw [hel]; omega, hcm, ?_, ?_⟩⟩
  ·
   simp only [List.size_toArray, List.length_append, List.length_take, List.length_drop, hs1, encCol_len]
   omega
  ·
   rw [hel]
   simp only [List.append_assoc]
   rw [List.take_left' (by rw [List.length_take, hs1]; omega)]
   exact hc1
 ·
  rw [hr2]
  exact hb.trans ⟨rfl, rfl, rfl, by simp [World.setRow], fun k hk => setRow_other _ _ _ _ (by omega)⟩
def api_Col.f (l0 : List S53) : Option (List S53) := if l0.length * 40 ≤ 140737488355328 then some l0 else none
theorem api_Col.calls (A0 : Option Addr) (c0 : Nat) (l0 : List (S53)) (r : List (S53)) (w : World) (hr0 : Kd.C k53 w A0 l0.length l0) (hc0 : l0.length ≤ c0) (h : api_Col.f l0 = some r) :
  Calls Tryz.prog 46 #[.slice A0 l0.length c0] w fun e w' => ∃ v0_ : Value, e = .returned (v0_) ∧ Kd.R k53 53 w' w.heap.size (fun _ => True) v0_ r ∧ Below w.heap.size w w' := by
 unfold api_Col.f at h
 by_cases hbig : l0.length * 40 ≤ 140737488355328
 case neg => rw [if_neg hbig] at h; cases h
 rw [if_pos hbig] at h
 obtain rfl := Option.some.inj h
 have mixed : Tryz.prog.follows Departure.mixedOrders = true := by kernel_rfl
 have q22 : ∀ (w : World) (a : Option Addr) (n c n' c' : Nat), (binOp .eql 35 (.slice a n c) (.slice none n' c')).run Tryz.prog w = .ok (.bool a.isNone) w := fun w a n c n' c' => Lib.run_eql_slice_nil w _ _ a n c n' c' Tryz.underlying35
 have u22 : ∀ w, Sem.run Tryz.prog (underlying 35) w = .ok (TypeDesc.slice 53) w := run_underlying Tryz.underlying35
 obtain ⟨i0, hi0, hz0, hz1, hz2⟩ := infoCol
 have z23 : ∀ w, (Go.sizeOf 53).run Tryz.prog w = .ok 3 w := by intro w; simp [Go.sizeOf, typeInfo, hi0, hz1]
 cases A0 with
 | none =>
  have hl : l0 = [] := by
   rcases Nat.eq_zero_or_pos l0.length with h | h
   ·
    exact List.length_eq_zero_iff.1 h
   ·
    obtain ⟨ad, ha, _⟩ := readsCol hr0 h
    cases ha
  subst hl
  clear hr0 h
  go_enter Tryz.func46, Tryz.ntmps46
  go_wp2
  go_ret
  exact ⟨_, rfl, Kd.R_nil _ _ _ _ _, Below.refl _ _⟩
 | some ad =>
  have hc : Aside (∀ j u, (cellsOf encCol l0)[j]? = some u → w.cell? (ad.add j) = some u) := by
   rcases Nat.eq_zero_or_pos l0.length with h | h
   ·
    intro j u hu
    rw [List.length_eq_zero_iff.1 h] at hu
    simp [cellsOf] at hu
   ·
    obtain ⟨ad', ha, hc⟩ := readsCol hr0 h
    cases ha
    exact hc
  have hn : l0.length ≤ maxLen := by unfold maxLen; omega
  have HH := JN hr0
  clear hr0 h
  go_enter Tryz.func46, Tryz.ntmps46
  go_wp2_with (at_builtin; refine wpList_append_own _ rfl _ _ 35 rfl w.heap.size 53 i0 (.agg (encCol z53).toArray) 3 40 Tryz.underlying35 hi0 hz0 hz1 hz2 rfl (by omega) _ _ _ rfl (World.ownsRow_made w #[] 0 (Nat.le_refl _) (Nat.zero_le _) (by simp)) ad l0.length c0 (cellsOf encCol l0) rfl ?qc1 ?qc2 ?qc3 ?qc4 ?qc5 ?qc6 ?_)
  case qc1 => exact JI encCol_len _
  case qc2 =>
   intro j u hj
   exact Lib.cell?_alloc_some _ (hc.out j u hj)
  case qc3 => exact cellsOf_one encCol_one _
  case qc4 => rw [Nat.zero_add]; exact hn
  case qc5 => rw [Nat.zero_add]; exact hbig
  case qc6 => simp
  intro v' w1 hown hgrow hnil
  go_wp2
  go_ret
  refine ⟨v', rfl, makeCol (fun _ _ => trivial) (by simpa using hown), ?_⟩
  exact ((Below.refl _ w).alloc (Nat.le_refl _) _).grown hgrow (by simp) (Jt)
section
section
variable {α : Type} {enc : α → List Value} {k : Nat}
theorem cells_set (hk : ∀ x, (enc x).length = k) : ∀ (l : List α) (i f : Nat) (u : Value) (c d : α), l[i]? = some d → f < k → (enc d).set f u = enc c → (cellsOf enc l).set (i * k + f) u = cellsOf enc (l.set i c)
 | [], i, f, u, c, d, h, _, _ => by simp at h
 | x :: l, 0, f, u, c, d, h, hf, he => by
  obtain rfl : x = d := by simpa using h
  rw [cellsOf_cons, Nat.zero_mul, Nat.zero_add, List.set_append_left _ _ (by rw [hk]; exact hf), he, List.set_cons_zero, cellsOf_cons]
 | x :: l, i + 1, f, u, c, d, h, hf, he => by
  have e : (i + 1) * k + f = (enc x).length + (i * k + f) := by rw [hk, Nat.add_mul, Nat.one_mul]; omega
  rw [cellsOf_cons, e, List.set_append_right _ _ (by omega), Nat.add_sub_cancel_left, cells_set hk l i f u c d (by simpa using h) hf he, List.set_cons_succ, cellsOf_cons]
theorem cells_at (hk : ∀ x, (enc x).length = k) : ∀ (l : List α) (i f : Nat) (d : α), l[i]? = some d → f < k → (cellsOf enc l)[i * k + f]? = (enc d)[f]?
 | [], i, f, d, h, _ => by simp at h
 | x :: l, 0, f, d, h, hf => by
  obtain rfl : x = d := by simpa using h
  rw [cellsOf_cons, Nat.zero_mul, Nat.zero_add, List.getElem?_append_left (by rw [hk]; exact hf)]
 | x :: l, i + 1, f, d, h, hf => by
  have e : (i + 1) * k + f = (enc x).length + (i * k + f) := by rw [hk, Nat.add_mul, Nat.one_mul]; omega
  rw [cellsOf_cons, e, List.getElem?_append_right (by omega), Nat.add_sub_cancel_left, cells_at hk l i f d (by simpa using h) hf]
end
theorem rd_at {l : List S53} {i : Int} (h0 : 0 ≤ i) (h1 : i < l.length) : l[i.toNat]? = some (JG l i) := by
 have h : i.toNat < l.length := by omega
 simp [JG, List.getElem?_eq_getElem h]
theorem rdv_at {l : List S27} {i : Int} (h0 : 0 ≤ i) (h1 : i < l.length) : l[i.toNat]? = some (rd_T27 l i) := by
 have h : i.toNat < l.length := by omega
 simp [rd_T27, List.getElem?_eq_getElem h]
theorem rd_set {l : List S53} {i : Int} (h0 : 0 ≤ i) (h1 : i < l.length) (c : S53) : JG (l.set i.toNat c) i = c := by
 have h : i.toNat < (l.set i.toNat c).length := by rw [List.length_set]; omega
 simp [JG, List.getElem?_eq_getElem h]
theorem rdv_set {l : List S27} {i : Int} (h0 : 0 ≤ i) (h1 : i < l.length) (c : S27) : rd_T27 (l.set i.toNat c) i = c := by
 have h : i.toNat < (l.set i.toNat c).length := by rw [List.length_set]; omega
 simp [rd_T27, List.getElem?_eq_getElem h]
section
variable {W : World} {base g n cap : Nat} {ok : Nat → Prop}
theorem putCol {l : List S53} (h : Kd.R k53 53 W base ok (.slice (some ⟨g, 0, none⟩) n cap) l) (hn : n = l.length) (i : Int) (h0 : 0 ≤ i) (h1 : i < l.length) (f : Nat) (hf : f < 3) (u : Value) (c : S53) (he : (encCol (JG l i)).set f u = encCol c) :
  Kd.R k53 53 (W.setCell ⟨g, i.toNat * 3 + f, none⟩ u) base ok (.slice (some ⟨g, 0, none⟩) n cap) (l.set i.toNat c) := by
 subst hn
 obtain ⟨hok, hown⟩ := openCol h
 have := (hown.stored (i.toNat * 3 + f) u).1
 rw [cells_set encCol_len l i.toNat f u c _ (rd_at h0 h1) hf he] at this
 exact makeCol hok (by rw [List.length_set]; exact this)
theorem putVal {l : List S27} (h : Kd.R k27 27 W base ok (.slice (some ⟨g, 0, none⟩) n cap) l) (hn : n = l.length) (i : Int) (h0 : 0 ≤ i) (h1 : i < l.length) (f : Nat) (hf : f < 3) (u : Value) (c : S27) (he : (JL (rd_T27 l i)).set f u = JL c) :
  Kd.R k27 27 (W.setCell ⟨g, i.toNat * 3 + f, none⟩ u) base ok (.slice (some ⟨g, 0, none⟩) n cap) (l.set i.toNat c) := by
 subst hn
 obtain ⟨hok, hown⟩ := openVal h
 have := (hown.stored (i.toNat * 3 + f) u).1
 rw [cells_set JK l i.toNat f u c _ (rdv_at h0 h1) hf he] at this
 exact makeVal hok (by rw [List.length_set]; exact this)
theorem getCol {l : List S53} (h : Kd.R k53 53 W base ok (.slice (some ⟨g, 0, none⟩) n cap) l) (hn : n = l.length) (i : Int) (h0 : 0 ≤ i) (h1 : i < l.length) (f : Nat) (hf : f < 3) :
  W.cell? ⟨g, i.toNat * 3 + f, none⟩ = (encCol (JG l i))[f]? ∧ W.frozen? ⟨g, i.toNat * 3 + f, none⟩ = false := by
 subst hn
 obtain ⟨hok, hown⟩ := openCol h
 have hm : i.toNat * 3 + f < l.length * 3 := by omega
 exact ⟨(hown.cellAt _ hm).trans (cells_at encCol_len l i.toNat f _ (rd_at h0 h1) hf), hown.frozenAt _⟩
theorem getVal {l : List S27} (h : Kd.R k27 27 W base ok (.slice (some ⟨g, 0, none⟩) n cap) l) (hn : n = l.length) (i : Int) (h0 : 0 ≤ i) (h1 : i < l.length) (f : Nat) (hf : f < 3) :
  W.cell? ⟨g, i.toNat * 3 + f, none⟩ = (JL (rd_T27 l i))[f]? ∧ W.frozen? ⟨g, i.toNat * 3 + f, none⟩ = false := by
 subst hn
 obtain ⟨hok, hown⟩ := openVal h
 have hm : i.toNat * 3 + f < l.length * 3 := by omega
 exact ⟨(hown.cellAt _ hm).trans (cells_at JK l i.toNat f _ (rdv_at h0 h1) hf), hown.frozenAt _⟩
theorem ownCol {v : Value} {l : List S53} (h : Kd.R k53 53 W base ok v l) (hn : 0 < l.length) : ∃ g cap, v = .slice (some ⟨g, 0, none⟩) l.length cap ∧ base ≤ g ∧ g < W.heap.size ∧ l.length ≤ cap := by
 obtain ⟨hok, hown⟩ := openCol h
 obtain ⟨g, cap, cur, rfl, hbg, hg, hnc, _⟩ := own_open hown hn
 exact ⟨g, cap, rfl, hbg, (Array.getElem?_eq_some_iff.1 hg).1, hnc⟩
theorem ownVal {v : Value} {l : List S27} (h : Kd.R k27 27 W base ok v l) (hn : 0 < l.length) : ∃ g cap, v = .slice (some ⟨g, 0, none⟩) l.length cap ∧ base ≤ g ∧ g < W.heap.size ∧ l.length ≤ cap := by
 obtain ⟨hok, hown⟩ := openVal h
 obtain ⟨g, cap, cur, rfl, hbg, hg, hnc, _⟩ := own_open hown hn
 exact ⟨g, cap, rfl, hbg, (Array.getElem?_eq_some_iff.1 hg).1, hnc⟩
theorem put3Val {l : List S27} (h : Kd.R k27 27 W base ok (.slice (some ⟨g, 0, none⟩) n cap) l) (hn : n = l.length) (i : Int) (h0 : 0 ≤ i) (h1 : i < l.length) (a b : Int) (s : ByteArray) :
  Kd.R k27 27 (((W.setCell ⟨g, i.toNat * 3, none⟩ (.int .i64 a)).setCell ⟨g, i.toNat * 3 + 1, none⟩ (.int .i64 b)).setCell ⟨g, i.toNat * 3 + 2, none⟩ (.string s)) base ok (.slice (some ⟨g, 0, none⟩) n cap) (l.set i.toNat ⟨a, b, s⟩) := by
 have p1 := putVal h hn i h0 h1 0 (by omega) (.int .i64 a) ⟨a, (rd_T27 l i).f1, (rd_T27 l i).f2⟩ rfl
 have e1 := rdv_set h0 h1 (⟨a, (rd_T27 l i).f1, (rd_T27 l i).f2⟩ : S27)
 have p2 := putVal p1 (Jj) i h0 (by rw [List.length_set]; exact h1) 1 (by omega) (.int .i64 b) ⟨a, b, (rd_T27 l i).f2⟩ (by rw [e1]; rfl)
 rw [List.set_set] at p2
 have e2 := rdv_set h0 h1 (⟨a, b, (rd_T27 l i).f2⟩ : S27)
 have p3 := putVal p2 (Jj) i h0 (by rw [List.length_set]; exact h1) 2 (by omega) (.string s) ⟨a, b, s⟩ (by rw [e2]; rfl)
 rw [List.set_set] at p3
 exact p3
theorem far3c {a : Addr} (h : a.block ≠ g) (o o' o'' : Nat) (x y z : Value) : (((W.setCell ⟨g, o, none⟩ x).setCell ⟨g, o', none⟩ y).setCell ⟨g, o'', none⟩ z).cell? a = W.cell? a :=
 (cell_far (p := ⟨g, o'', none⟩) h z).trans ((cell_far (p := ⟨g, o', none⟩) h y).trans (cell_far (p := ⟨g, o, none⟩) h x))
theorem below3r {w : World} (hb : Below w.heap.size w W) (hg : w.heap.size ≤ g) (o o' o'' : Nat) (x y z : Value) : Below w.heap.size w (((W.setCell ⟨g, o, none⟩ x).setCell ⟨g, o', none⟩ y).setCell ⟨g, o'', none⟩ z) :=
 ((hb.setCell (p := ⟨g, o, none⟩) hg _).setCell (p := ⟨g, o', none⟩) hg _).setCell (p := ⟨g, o'', none⟩) hg _
end
end
abbrev rdV (l : List Val) (i : Int) : Val := rd_T27 l i
def RowR (row' : List Val) (w : World) (e : Ending) (w' : World) : Prop :=
 ∃ v, e = .returned v ∧ Kd.R k27 27 w' w.heap.size (fun _ => True) v row' ∧ Below w.heap.size w w'
theorem keep_two {W w2 : World} {o o' : Obj} (hb : Below ((W.alloc o).alloc o').drew.heap.size ((W.alloc o).alloc o').drew w2) : w2.heap[W.heap.size]? = some o ∧ w2.heap[W.heap.size + 1]? = some o' :=
 ⟨JJ (W := ((W.alloc o).alloc o').drew) (JE (heap_alloc_new W o) o') hb, JJ (W := ((W.alloc o).alloc o').drew) (JF (by have := heap_alloc_new (W.alloc o) o'; simpa using this)) hb⟩
theorem keep_one {W w2 : World} {o : Obj} (hb : Below (W.alloc o).drew.heap.size (W.alloc o).drew w2) : w2.heap[W.heap.size]? = some o := JJ (W := (W.alloc o).drew) (heap_alloc_new W o) hb
theorem cells3 {W : World} {g t : Nat} {a b c : Value} (h : W.heap[g]? = some (.cells #[a, b, c] t (0, 0))) : W.cell? ⟨g, 0, none⟩ = some a ∧ W.cell? ⟨g, 1, none⟩ = some b ∧ W.cell? ⟨g, 2, none⟩ = some c ∧ W.frozen? ⟨g, 0, none⟩ = false ∧ W.frozen? ⟨g, 1, none⟩ = false ∧ W.frozen? ⟨g, 2, none⟩ = false :=
 ⟨Jw h 0, Jw h 1, Jw h 2, Jz h 0, Jz h 1, Jz h 2⟩
theorem bl_alloc {B : Nat} {w W : World} (h : Below B w W) (hB : B ≤ W.heap.size) (o : Obj) : Below B w (W.alloc o) := h.alloc hB o
theorem bl_set {B : Nat} {w W : World} {g j : Nat} (h : Below B w W) (hg : B ≤ g) (u : Value) : Below B w (W.setCell ⟨g, j, none⟩ u) := h.setCell (p := ⟨g, j, none⟩) hg u
theorem bl_drew {B : Nat} {w W : World} (h : Below B w W) : Below B w W.drew := h.drew
theorem split_val (i j : Int) (v : Value) (row : List Val) (base : Nat) (W : World) (hv : Kd.R k27 27 W base (fun _ => True) v row) (h0 : 0 ≤ i) (h1 : i < row.length) (hj : j = i + 1) (a c : Val) (b : Nat) (hb : b = W.heap.size) (hn : (row.length + 1) * 32 ≤ 140737488355328) (hbase : base ≤ W.heap.size) :
  Calls Tryz.prog 107 #[v, .int .i64 i, .int .i64 j, .slice (some ⟨b, 0, none⟩) 2 2] (W.alloc (.cells #[.int .i64 a.f0, .int .i64 a.f1, .string a.f2, .int .i64 c.f0, .int .i64 c.f1, .string c.f2] 27)) fun e w' => ∃ v1 : Value, e = .returned v1 ∧ Kd.R k27 27 w' base (fun _ => True) v1 (row.take i.toNat ++ [a, c] ++ row.drop (i.toNat + 1)) ∧ Below base W w' := by
 subst hb
 have hlt : ∀ g, v.ownBlock = some g → g < W.heap.size := fun g h => ((openVal hv).2.lt g h).2
 refine (replace2Val i j v row base (W.alloc (.cells #[.int .i64 a.f0, .int .i64 a.f1, .string a.f2, .int .i64 c.f0, .int .i64 c.f1, .string c.f2] 27)) (Kd.R_below hv (JD (Below.refl _ _) _)) h0 h1 hj W.heap.size a c (heap_alloc_new W _) (fun h => Nat.lt_irrefl _ (hlt _ h.symm)) hn (Jc)).mono ?_
 rintro e w' ⟨v1, he, hr, hb⟩
 exact ⟨v1, he, hr, ((Below.refl base W).alloc hbase _).trans hb⟩
theorem split_val2 (w w1 W : World) (i j : Int) (v : Value) (row : List Val) (h1w : Below w.heap.size w w1) (hlt : w.heap.size < w1.heap.size) (hv : Kd.R k27 27 w1 (w.heap.size + 1) (fun _ => True) v row) (h2w : Below w1.heap.size w1 W) (h0 : 0 ≤ i) (h1 : i < row.length) (hj : j = i + 1) (a c : Val) (b : Nat) (hb : b = W.heap.size) (hn : row.length ≤ 1000) :
  Calls Tryz.prog 107 #[v, .int .i64 i, .int .i64 j, .slice (some ⟨b, 0, none⟩) 2 2] (W.alloc (.cells #[.int .i64 a.f0, .int .i64 a.f1, .string a.f2, .int .i64 c.f0, .int .i64 c.f1, .string c.f2] 27)) fun e w' => ∃ v1 : Value, e = .returned v1 ∧ Kd.R k27 27 w' w.heap.size (fun _ => True) v1 (row.take i.toNat ++ [a, c] ++ row.drop (i.toNat + 1)) ∧ Below w.heap.size w w' := by
 have hs := h2w.size
 refine (split_val i j v row (w.heap.size + 1) W (Kd.R_below hv h2w) h0 h1 hj a c b hb (by omega) (by omega)).mono ?_
 rintro e w' ⟨v1, he, hr, hb⟩
 exact ⟨v1, he, Kd.R_lower hr (by omega), (h1w.trans (h2w.mono (by omega))).trans (hb.mono (by omega))⟩
theorem fwd_same (op : Int) (A B C S : ByteArray) (N k m : Int) (s : ByteArray) (A0 : Option Addr) (c0 : Nat) (cols : List Col) (A1 : Option Addr) (c1 : Nat) (row : List Val) (w : World) (hr0 : Kd.C k53 w A0 cols.length cols) (hc0 : cols.length ≤ c0) (hr1 : Kd.C k27 w A1 row.length row) (hc1 : row.length ≤ c1) (hn : row.length ≤ 1000) (hG : Good w) (hop : op = 2) (i : Int) (hi : JC cols A 0 = i) :
  Calls Tryz.prog 59 #[.agg #[.int .i64 op, .string A, .string B, .string C, .string S, .int .i64 N, .int .i64 k, .int .i64 m, .string s], .slice A0 cols.length c0, .slice A1 row.length c1] w (RowR row w) := by
 obtain rfl : op = 2 := hop
 have HR := JN hr0
 have HRW := JN hr1
 have HG := JN hG
 have hlen1 : row.length ≤ 9223372036854775807 := by omega
 clear hr0 hG
 have HB0 : Jv (∀ o, Below w.heap.size w (w.alloc o)) := ⟨fun o => JD (Below.refl w.heap.size w) o⟩
 have BX0 : Jv (∀ o, (w.alloc o).heap[w.heap.size]? = some o) := ⟨fun o => heap_alloc_new w o⟩
 have HCL : Jv (api_Value.f row = some row) := ⟨KO⟩
 have HF : Jv (shape_Find.f cols A = some i) := ⟨KF⟩
 clear hi
 have hu1 := Tryz.underlying29
 have hu2 := Tryz.underlying53
 have hu3 := Tryz.underlying27
 clear hr1
 go_enter Tryz.func59, Tryz.ntmps59
 go_wp2_with (first
  | (go_at_call 45; refine (shape_Find.calls _ _ _ _ _ _ (Kd.C_below HR.out (HB0.out _)) hc0 HF.out).mono ?_; rintro e w1 ⟨rfl, hb⟩; obtain ⟨hc, hf⟩ := bcell2 hb; have hz : w.heap.size < w1.heap.size := by { have h_ := hb.size; (try simp at h_); omega }; have BX := JN (JJ (BX0.out (.cells #[.int .i64 2, .string A, .string B, .string C, .string S, .int .i64 N, .int .i64 k, .int .i64 m, .string s] 29 (0, 0))) hb); have HB := JN (JA (HB0.out _) (HB0.out _).size hb); clear hb)
  | (go_at_call 58; refine (api_Value.calls _ _ _ _ _ (Kd.C_below HRW.out HB.out) hc1 HCL.out).mono ?_; rintro e w1 ⟨v0, rfl, hv, hb⟩; obtain ⟨hc, hf⟩ := bcell2 hb; have hz : w.heap.size < w1.heap.size := by { have h_ := hb.size; (try simp at h_); omega }; have HV : Jv (Kd.R k27 27 w1 (w.heap.size + 1) (fun _ => True) v0 row) := ⟨Kd.R_lower hv (by omega)⟩; clear hv; have BX' := JN (JJ BX.out hb); clear BX; have BX := BX'; clear BX'; have HB' := JN (JA HB.out HB.out.size hb); clear HB; have HB := HB'; clear HB' hb))
 go_ret
 exact ⟨_, rfl, Kd.R_lower HV.out (by omega), HB.out⟩
theorem fwd_add (op : Int) (A B C S : ByteArray) (N k m : Int) (s : ByteArray) (A0 : Option Addr) (c0 : Nat) (cols : List Col) (A1 : Option Addr) (c1 : Nat) (row : List Val) (w : World) (hr0 : Kd.C k53 w A0 cols.length cols) (hc0 : cols.length ≤ c0) (hr1 : Kd.C k27 w A1 row.length row) (hc1 : row.length ≤ c1) (hn : row.length ≤ 1000) (hG : Good w) (hop : op = 0) (i : Int) (hi : JC cols A 0 = i) :
  Calls Tryz.prog 59 #[.agg #[.int .i64 op, .string A, .string B, .string C, .string S, .int .i64 N, .int .i64 k, .int .i64 m, .string s], .slice A0 cols.length c0, .slice A1 row.length c1] w (RowR (row ++ [⟨k, m, s⟩]) w) := by
 obtain rfl : op = 0 := hop
 have HR := JN hr0
 have HRW := JN hr1
 have HG := JN hG
 have hlen1 : row.length ≤ 9223372036854775807 := by omega
 clear hr0 hG
 have HB0 : Jv (∀ o, Below w.heap.size w (w.alloc o)) := ⟨fun o => JD (Below.refl w.heap.size w) o⟩
 have BX0 : Jv (∀ o, (w.alloc o).heap[w.heap.size]? = some o) := ⟨fun o => heap_alloc_new w o⟩
 have HCL : Jv (api_Value.f row = some row) := ⟨KO⟩
 have HF : Jv (shape_Find.f cols A = some i) := ⟨KF⟩
 clear hi
 have hu1 := Tryz.underlying29
 have hu2 := Tryz.underlying53
 have hu3 := Tryz.underlying27
 have HN := JN hn
 clear hn
 obtain ⟨i0, hi0, hz0, hz1, hz2⟩ := infoVal
 clear hr1
 go_enter Tryz.func59, Tryz.ntmps59
 go_wp2_with (first
  | (go_at_call 45; refine (shape_Find.calls _ _ _ _ _ _ (Kd.C_below HR.out (HB0.out _)) hc0 HF.out).mono ?_; rintro e w1 ⟨rfl, hb⟩; obtain ⟨hc, hf⟩ := bcell2 hb; have hz : w.heap.size < w1.heap.size := by { have h_ := hb.size; (try simp at h_); omega }; have BX := JN (JJ (BX0.out (.cells #[.int .i64 0, .string A, .string B, .string C, .string S, .int .i64 N, .int .i64 k, .int .i64 m, .string s] 29 (0, 0))) hb); have HB := JN (JA (HB0.out _) (HB0.out _).size hb); clear hb)
  | (go_at_call 58; refine (api_Value.calls _ _ _ _ _ (Kd.C_below HRW.out HB.out) hc1 HCL.out).mono ?_; rintro e w1 ⟨v0, rfl, hv, hb⟩; obtain ⟨hc, hf⟩ := bcell2 hb; have hz : w.heap.size < w1.heap.size := by { have h_ := hb.size; (try simp at h_); omega }; have HV : Jv (Kd.R k27 27 w1 (w.heap.size + 1) (fun _ => True) v0 row) := ⟨Kd.R_lower hv (by omega)⟩; clear hv; have BX' := JN (JJ BX.out hb); clear BX; have BX := BX'; clear BX'; have HB' := JN (JA HB.out HB.out.size hb); clear HB; have HB := HB'; clear HB' hb)
  | (at_builtin; refine wpList_append_own _ rfl _ _ 36 rfl (w.heap.size + 1) 27 i0 (.agg (JL z27).toArray) 3 32 Tryz.underlying36 hi0 hz0 hz1 hz2 rfl (by omega) _ _ _ rfl ((openVal HV.out).2.alloc _) ⟨w1.heap.size, 0, none⟩ 1 1 (JL ⟨k, m, s⟩) rfl ?qc1 ?qc2 ?qc3 ?qc4 ?qc5 ?qc6 ?_))
 case qc1 => rfl
 case qc2 =>
  intro q u hu
  rw [Addr.add_lit, cell_of_row _ w1.heap.size _ _ 27 (0, 0) (heap_alloc_new w1 _), Nat.zero_add]
  simpa using hu
 case qc3 => exact encVal_one _
 case qc4 => have := HN.out; unfold maxLen; omega
 case qc5 => have := HN.out; omega
 case qc6 => simp; omega
 intro v' w2 hown1 hgrow hnil
 have HO1 := JN hown1
 have HG1 := JN hgrow
 clear hown1 hgrow hnil
 go_wp2
 go_ret
 refine ⟨_, rfl, ?_, ?_⟩
 ·
  refine Kd.R_lower (base := w.heap.size + 1) (makeVal (fun _ _ => trivial) ?_) (by omega)
  have := HO1.out
  rw [cellsOf_append, List.length_append]
  simpa [cellsOf] using this
 ·
  have hb := (Below.refl w.heap.size w).trans HB.out
  exact ((hb.alloc hb.size _).grown HG1.out (by have := hb.size; simp; omega) (by intro q hq; have := ((openVal HV.out).2.lt q hq).1; omega))
theorem fwd_drop (op : Int) (A B C S : ByteArray) (N k m : Int) (s : ByteArray) (A0 : Option Addr) (c0 : Nat) (cols : List Col) (A1 : Option Addr) (c1 : Nat) (row : List Val) (w : World) (hr0 : Kd.C k53 w A0 cols.length cols) (hc0 : cols.length ≤ c0) (hr1 : Kd.C k27 w A1 row.length row) (hc1 : row.length ≤ c1) (hn : row.length ≤ 1000) (hG : Good w) (hop : op = 1) (i : Int) (hi : JC cols A 0 = i) (hi0 : 0 ≤ i) (hi1 : i < row.length) :
  Calls Tryz.prog 59 #[.agg #[.int .i64 op, .string A, .string B, .string C, .string S, .int .i64 N, .int .i64 k, .int .i64 m, .string s], .slice A0 cols.length c0, .slice A1 row.length c1] w (RowR (row.eraseIdx i.toNat) w) := by
 obtain rfl : op = 1 := hop
 have HR := JN hr0
 have HRW := JN hr1
 have HG := JN hG
 have hlen1 : row.length ≤ 9223372036854775807 := by omega
 clear hr0 hG
 have HB0 : Jv (∀ o, Below w.heap.size w (w.alloc o)) := ⟨fun o => JD (Below.refl w.heap.size w) o⟩
 have BX0 : Jv (∀ o, (w.alloc o).heap[w.heap.size]? = some o) := ⟨fun o => heap_alloc_new w o⟩
 have HCL : Jv (api_Value.f row = some row) := ⟨KO⟩
 have HF : Jv (shape_Find.f cols A = some i) := ⟨KF⟩
 clear hi
 have hu1 := Tryz.underlying29
 have hu2 := Tryz.underlying53
 have hu3 := Tryz.underlying27
 clear hr1
 go_enter Tryz.func59, Tryz.ntmps59
 go_wp2_with (first
  | (go_at_call 45; refine (shape_Find.calls _ _ _ _ _ _ (Kd.C_below HR.out (HB0.out _)) hc0 HF.out).mono ?_; rintro e w1 ⟨rfl, hb⟩; obtain ⟨hc, hf⟩ := bcell2 hb; have hz : w.heap.size < w1.heap.size := by { have h_ := hb.size; (try simp at h_); omega }; have BX := JN (JJ (BX0.out (.cells #[.int .i64 1, .string A, .string B, .string C, .string S, .int .i64 N, .int .i64 k, .int .i64 m, .string s] 29 (0, 0))) hb); have HB := JN (JA (HB0.out _) (HB0.out _).size hb); clear hb)
  | (go_at_call 58; refine (api_Value.calls _ _ _ _ _ (Kd.C_below HRW.out HB.out) hc1 HCL.out).mono ?_; rintro e w1 ⟨v0, rfl, hv, hb⟩; obtain ⟨hc, hf⟩ := bcell2 hb; have hz : w.heap.size < w1.heap.size := by { have h_ := hb.size; (try simp at h_); omega }; have HV : Jv (Kd.R k27 27 w1 (w.heap.size + 1) (fun _ => True) v0 row) := ⟨Kd.R_lower hv (by omega)⟩; clear hv; have BX' := JN (JJ BX.out hb); clear BX; have BX := BX'; clear BX'; have HB' := JN (JA HB.out HB.out.size hb); clear HB; have HB := HB'; clear HB' hb)
  | (go_at_call 105; refine (deleteVal _ _ _ _ _ _ _ HV.out hi0 hi1 (by omega)).mono ?_; rintro e w1 ⟨v1, rfl, hvo, hv, hb⟩; have HV' := JN hv; clear HV hv hvo; have HV := HV'; clear HV'; have HB' := JN (HB.out.trans (hb.mono (show w.heap.size ≤ w.heap.size + 1 by omega))); clear HB hb; have HB := HB'; clear HB'))
 go_ret
 exact ⟨_, rfl, Kd.R_lower HV.out (by omega), HB.out⟩
theorem fwd_scale (op : Int) (A B C S : ByteArray) (N k m : Int) (s : ByteArray) (A0 : Option Addr) (c0 : Nat) (cols : List Col) (A1 : Option Addr) (c1 : Nat) (row : List Val) (w : World) (hr0 : Kd.C k53 w A0 cols.length cols) (hc0 : cols.length ≤ c0) (hr1 : Kd.C k27 w A1 row.length row) (hc1 : row.length ≤ c1) (hn : row.length ≤ 1000) (hG : Good w) (hop : op = 6) (i : Int) (hi : JC cols A 0 = i) (hi0 : 0 ≤ i) (hi1 : i < row.length) :
  Calls Tryz.prog 59 #[.agg #[.int .i64 op, .string A, .string B, .string C, .string S, .int .i64 N, .int .i64 k, .int .i64 m, .string s], .slice A0 cols.length c0, .slice A1 row.length c1] w (RowR (row.set i.toNat ⟨0, IntKind.i64.wrap ((rdV row i).f1 * N), ⟨#[]⟩⟩) w) := by
 obtain rfl : op = 6 := hop
 have HR := JN hr0
 have HRW := JN hr1
 have HG := JN hG
 have hlen1 : row.length ≤ 9223372036854775807 := by omega
 clear hr0 hG
 have HB0 : Jv (∀ o, Below w.heap.size w (w.alloc o)) := ⟨fun o => JD (Below.refl w.heap.size w) o⟩
 have BX0 : Jv (∀ o, (w.alloc o).heap[w.heap.size]? = some o) := ⟨fun o => heap_alloc_new w o⟩
 have HCL : Jv (api_Value.f row = some row) := ⟨KO⟩
 have HF : Jv (shape_Find.f cols A = some i) := ⟨KF⟩
 clear hi
 have hu1 := Tryz.underlying29
 have hu2 := Tryz.underlying53
 have hu3 := Tryz.underlying27
 obtain ⟨ad, e, h0, h1, h2⟩ := at_T27 hr1 i hi0 hi1
 cases e
 have HX0 := JN h0
 have HX1 := JN h1
 have HX2 := JN h2
 have p := eq_true hi0
 have q := eq_true hi1
 clear h0 h1 h2
 clear hr1
 go_enter Tryz.func59, Tryz.ntmps59
 go_wp2_with (first
  | (go_at_call 45; refine (shape_Find.calls _ _ _ _ _ _ (Kd.C_below HR.out (HB0.out _)) hc0 HF.out).mono ?_; rintro e w1 ⟨rfl, hb⟩; obtain ⟨hc, hf⟩ := bcell2 hb; have hz : w.heap.size < w1.heap.size := by { have h_ := hb.size; (try simp at h_); omega }; have BX := JN (JJ (BX0.out (.cells #[.int .i64 6, .string A, .string B, .string C, .string S, .int .i64 N, .int .i64 k, .int .i64 m, .string s] 29 (0, 0))) hb); have HB := JN (JA (HB0.out _) (HB0.out _).size hb); clear hb)
  | (go_at_call 58; refine (api_Value.calls _ _ _ _ _ (Kd.C_below HRW.out HB.out) hc1 HCL.out).mono ?_; rintro e w1 ⟨v0, rfl, hv, hb⟩; obtain ⟨hc, hf⟩ := bcell2 hb; have hz : w.heap.size < w1.heap.size := by { have h_ := hb.size; (try simp at h_); omega }; have HV : Jv (Kd.R k27 27 w1 (w.heap.size + 1) (fun _ => True) v0 row) := ⟨Kd.R_lower hv (by omega)⟩; clear hv; have BX' := JN (JJ BX.out hb); clear BX; have BX := BX'; clear BX'; have HB' := JN (JA HB.out HB.out.size hb); clear HB; have HB := HB'; clear HB' hb; obtain ⟨g, cap, rfl, hg0, hg1, hg2⟩ := ownVal HV.out (by omega)))
 have hx1 := (HB.out.cell (JO w _ HX1.out)).trans HX1.out
 have hne : (ad.add (i.toNat * 3)).block ≠ g := by have := JO w _ HX1.out; (try simp only at this); omega
 have hgn : w.heap.size ≠ g := by omega
 have bx5 : w1.cell? ⟨w.heap.size, 5, none⟩ = some (.int .i64 N) := (Jw BX.out 5).trans rfl
 go_region_held3 (fun w' => w'.cell? ⟨(ad.add (i.toNat * 3)).block, (ad.add (i.toNat * 3)).off + 1, none⟩ = some (.int .i64 (rdV row i).f1) ∧ w'.cell? ⟨w.heap.size, 5, none⟩ = some (.int .i64 N)) (first | exact ⟨hx1, bx5⟩ | exact ⟨yhx1, ybx5⟩ | exact ⟨(far3c (a := ⟨_, _, none⟩) hne _ _ _ _ _ _).trans yhx1, (far3c (a := ⟨_, _, none⟩) hgn _ _ _ _ _ _).trans ybx5⟩) (first | (go_at_call 110; refine (value_Int.calls _ _ _ _ _ rfl).mono ?_; rintro e w2 ⟨rfl, hb⟩; have BX2 := JN (JJ (Js) hb); have HB2 := JN (Below.trans (Jb) (hb.mono (show w.heap.size ≤ _ by simp; omega))); have yhx1 := (HB2.out.cell (JO w _ HX1.out)).trans HX1.out; have ybx5 : w2.cell? ⟨w.heap.size, 5, none⟩ = some (.int .i64 N) := (Jw BX2.out 5).trans rfl; have HV2 := JN (Kd.R_below (Kd.R_drew HV.out) hb); have hq := getVal HV2.out rfl i hi0 hi1 0 (by omega); have hr0 : w2.cell? ⟨g, i.toNat * 3, none⟩ = some (.int .i64 (rdV row i).f0) := hq.1; have hs0 : w2.frozen? ⟨g, i.toNat * 3, none⟩ = false := hq.2; clear hq; have hq := getVal HV2.out rfl i hi0 hi1 1 (by omega); have hr1 : w2.cell? ⟨g, i.toNat * 3 + 1, none⟩ = some (.int .i64 (rdV row i).f1) := hq.1; have hs1 : w2.frozen? ⟨g, i.toNat * 3 + 1, none⟩ = false := hq.2; clear hq; have hq := getVal HV2.out rfl i hi0 hi1 2 (by omega); have hr2 : w2.cell? ⟨g, i.toNat * 3 + 2, none⟩ = some (.string (rdV row i).f2) := hq.1; have hs2 : w2.frozen? ⟨g, i.toNat * 3 + 2, none⟩ = false := hq.2; clear hq; clear hb))
 try go_wp2
 go_ret
 exact ⟨.slice (some ⟨g, 0, none⟩) row.length cap, rfl, Kd.R_lower (put3Val HV2.out rfl i hi0 hi1 _ _ _) (show w.heap.size ≤ w.heap.size + 1 by omega), below3r HB2.out (show w.heap.size ≤ g by omega) _ _ _ _ _ _⟩
theorem fwd_retype (op : Int) (A B C S : ByteArray) (N k m : Int) (s : ByteArray) (A0 : Option Addr) (c0 : Nat) (cols : List Col) (A1 : Option Addr) (c1 : Nat) (row : List Val) (w : World) (hr0 : Kd.C k53 w A0 cols.length cols) (hc0 : cols.length ≤ c0) (hr1 : Kd.C k27 w A1 row.length row) (hc1 : row.length ≤ c1) (hn : row.length ≤ 1000) (hG : Good w) (hop : op = 5) (i : Int) (hi : JC cols A 0 = i) (hi0 : 0 ≤ i) (hi1 : i < row.length) (hv0 : -9223372036854775808 ≤ (rdV row i).f1) (hv1 : (rdV row i).f1 ≤ 9223372036854775807) (hv2 : (rdV row i).f2.size ≤ 1000000) :
  Calls Tryz.prog 59 #[.agg #[.int .i64 op, .string A, .string B, .string C, .string S, .int .i64 N, .int .i64 k, .int .i64 m, .string s], .slice A0 cols.length c0, .slice A1 row.length c1] w (RowR (row.set i.toNat (convS (rdV row i) N ⟨k, m, s⟩)) w) := by
 obtain rfl : op = 5 := hop
 have HR := JN hr0
 have HRW := JN hr1
 have HG := JN hG
 have hlen1 : row.length ≤ 9223372036854775807 := by omega
 clear hr0 hG
 have HB0 : Jv (∀ o, Below w.heap.size w (w.alloc o)) := ⟨fun o => JD (Below.refl w.heap.size w) o⟩
 have BX0 : Jv (∀ o, (w.alloc o).heap[w.heap.size]? = some o) := ⟨fun o => heap_alloc_new w o⟩
 have HCL : Jv (api_Value.f row = some row) := ⟨KO⟩
 have HF : Jv (shape_Find.f cols A = some i) := ⟨KF⟩
 clear hi
 have hu1 := Tryz.underlying29
 have hu2 := Tryz.underlying53
 have hu3 := Tryz.underlying27
 obtain ⟨ad, e, h0, h1, h2⟩ := at_T27 hr1 i hi0 hi1
 cases e
 have HX0 := JN h0
 have HX1 := JN h1
 have HX2 := JN h2
 have p := eq_true hi0
 have q := eq_true hi1
 clear h0 h1 h2
 obtain ⟨q, hq⟩ : ∃ q, convS (rdV row i) N ⟨k, m, s⟩ = q := ⟨_, rfl⟩
 have HCV : Jv (∀ W, Below w.heap.size w W → Calls Tryz.prog 109 #[.agg #[.int .i64 (rdV row i).f0, .int .i64 (rdV row i).f1, .string (rdV row i).f2], .int .i64 N, .agg #[.int .i64 k, .int .i64 m, .string s]] W fun e w' => e = .returned (.agg #[.int .i64 q.f0, .int .i64 q.f1, .string q.f2]) ∧ Below W.heap.size W w') :=
  ⟨fun W hb => by have := convert_calls (rdV row i) N ⟨k, m, s⟩ W (HG.out.below hb) hv0 hv1 (by omega); rwa [hq] at this⟩
 rw [hq]
 clear hq hv0 hv1 hv2
 clear hr1
 go_enter Tryz.func59, Tryz.ntmps59
 go_wp2_with (first
  | (go_at_call 45; refine (shape_Find.calls _ _ _ _ _ _ (Kd.C_below HR.out (HB0.out _)) hc0 HF.out).mono ?_; rintro e w1 ⟨rfl, hb⟩; obtain ⟨hc, hf⟩ := bcell2 hb; have hz : w.heap.size < w1.heap.size := by { have h_ := hb.size; (try simp at h_); omega }; have BX := JN (JJ (BX0.out (.cells #[.int .i64 5, .string A, .string B, .string C, .string S, .int .i64 N, .int .i64 k, .int .i64 m, .string s] 29 (0, 0))) hb); have HB := JN (JA (HB0.out _) (HB0.out _).size hb); clear hb)
  | (go_at_call 58; refine (api_Value.calls _ _ _ _ _ (Kd.C_below HRW.out HB.out) hc1 HCL.out).mono ?_; rintro e w1 ⟨v0, rfl, hv, hb⟩; obtain ⟨hc, hf⟩ := bcell2 hb; have hz : w.heap.size < w1.heap.size := by { have h_ := hb.size; (try simp at h_); omega }; have HV : Jv (Kd.R k27 27 w1 (w.heap.size + 1) (fun _ => True) v0 row) := ⟨Kd.R_lower hv (by omega)⟩; clear hv; have BX' := JN (JJ BX.out hb); clear BX; have BX := BX'; clear BX'; have HB' := JN (JA HB.out HB.out.size hb); clear HB; have HB := HB'; clear HB' hb; obtain ⟨g, cap, rfl, hg0, hg1, hg2⟩ := ownVal HV.out (by omega)))
 have hx0 := (HB.out.cell (JO w _ HX0.out)).trans HX0.out
 have hx1 := (HB.out.cell (JO w _ HX1.out)).trans HX1.out
 have hx2 := (HB.out.cell (JO w _ HX2.out)).trans HX2.out
 have hne : (ad.add (i.toNat * 3)).block ≠ g := by have := JO w _ HX0.out; (try simp only at this); omega
 have hgn : w.heap.size ≠ g := by omega
 have bx5 : w1.cell? ⟨w.heap.size, 5, none⟩ = some (.int .i64 N) := (Jw BX.out 5).trans rfl
 have bx6 : w1.cell? ⟨w.heap.size, 6, none⟩ = some (.int .i64 k) := (Jw BX.out 6).trans rfl
 have bx7 : w1.cell? ⟨w.heap.size, 7, none⟩ = some (.int .i64 m) := (Jw BX.out 7).trans rfl
 have bx8 : w1.cell? ⟨w.heap.size, 8, none⟩ = some (.string s) := (Jw BX.out 8).trans rfl
 go_region_held3 (fun w' => w'.cell? (ad.add (i.toNat * 3)) = some (.int .i64 (rdV row i).f0) ∧ w'.cell? ⟨(ad.add (i.toNat * 3)).block, (ad.add (i.toNat * 3)).off + 1, none⟩ = some (.int .i64 (rdV row i).f1) ∧ w'.cell? ⟨(ad.add (i.toNat * 3)).block, (ad.add (i.toNat * 3)).off + 2, none⟩ = some (.string (rdV row i).f2) ∧ w'.cell? ⟨w.heap.size, 5, none⟩ = some (.int .i64 N) ∧ w'.cell? ⟨w.heap.size, 6, none⟩ = some (.int .i64 k) ∧ w'.cell? ⟨w.heap.size, 7, none⟩ = some (.int .i64 m) ∧ w'.cell? ⟨w.heap.size, 8, none⟩ = some (.string s)) (first | exact ⟨hx0, hx1, hx2, bx5, bx6, bx7, bx8⟩ | exact ⟨yhx0, yhx1, yhx2, ybx5, ybx6, ybx7, ybx8⟩ | exact ⟨(far3c (a := ad.add (i.toNat * 3)) hne _ _ _ _ _ _).trans yhx0, (far3c (a := ⟨_, _, none⟩) hne _ _ _ _ _ _).trans yhx1, (far3c (a := ⟨_, _, none⟩) hne _ _ _ _ _ _).trans yhx2, (far3c (a := ⟨_, _, none⟩) hgn _ _ _ _ _ _).trans ybx5, (far3c (a := ⟨_, _, none⟩) hgn _ _ _ _ _ _).trans ybx6, (far3c (a := ⟨_, _, none⟩) hgn _ _ _ _ _ _).trans ybx7, (far3c (a := ⟨_, _, none⟩) hgn _ _ _ _ _ _).trans ybx8⟩) (first | (go_at_call 109; refine (HCV.out _ (Jb)).mono ?_; rintro e w2 ⟨rfl, hb⟩; have BX2 := JN (JJ (Js) hb); have HB2 := JN (Below.trans (Jb) (hb.mono (show w.heap.size ≤ _ by simp; omega))); have yhx0 := (HB2.out.cell (JO w _ HX0.out)).trans HX0.out; have yhx1 := (HB2.out.cell (JO w _ HX1.out)).trans HX1.out; have yhx2 := (HB2.out.cell (JO w _ HX2.out)).trans HX2.out; have ybx5 : w2.cell? ⟨w.heap.size, 5, none⟩ = some (.int .i64 N) := (Jw BX2.out 5).trans rfl; have ybx6 : w2.cell? ⟨w.heap.size, 6, none⟩ = some (.int .i64 k) := (Jw BX2.out 6).trans rfl; have ybx7 : w2.cell? ⟨w.heap.size, 7, none⟩ = some (.int .i64 m) := (Jw BX2.out 7).trans rfl; have ybx8 : w2.cell? ⟨w.heap.size, 8, none⟩ = some (.string s) := (Jw BX2.out 8).trans rfl; have HV2 := JN (Kd.R_below (Kd.R_drew HV.out) hb); have hq := getVal HV2.out rfl i hi0 hi1 0 (by omega); have hr0 : w2.cell? ⟨g, i.toNat * 3, none⟩ = some (.int .i64 (rdV row i).f0) := hq.1; have hs0 : w2.frozen? ⟨g, i.toNat * 3, none⟩ = false := hq.2; clear hq; have hq := getVal HV2.out rfl i hi0 hi1 1 (by omega); have hr1 : w2.cell? ⟨g, i.toNat * 3 + 1, none⟩ = some (.int .i64 (rdV row i).f1) := hq.1; have hs1 : w2.frozen? ⟨g, i.toNat * 3 + 1, none⟩ = false := hq.2; clear hq; have hq := getVal HV2.out rfl i hi0 hi1 2 (by omega); have hr2 : w2.cell? ⟨g, i.toNat * 3 + 2, none⟩ = some (.string (rdV row i).f2) := hq.1; have hs2 : w2.frozen? ⟨g, i.toNat * 3 + 2, none⟩ = false := hq.2; clear hq; clear hb))
 try go_wp2
 go_ret
 exact ⟨.slice (some ⟨g, 0, none⟩) row.length cap, rfl, Kd.R_lower (put3Val HV2.out rfl i hi0 hi1 _ _ _) (show w.heap.size ≤ w.heap.size + 1 by omega), below3r HB2.out (show w.heap.size ≤ g by omega) _ _ _ _ _ _⟩
theorem fwd_split (op : Int) (A B C S : ByteArray) (N k m : Int) (s : ByteArray) (A0 : Option Addr) (c0 : Nat) (cols : List Col) (A1 : Option Addr) (c1 : Nat) (row : List Val) (w : World) (hr0 : Kd.C k53 w A0 cols.length cols) (hc0 : cols.length ≤ c0) (hr1 : Kd.C k27 w A1 row.length row) (hc1 : row.length ≤ c1) (hn : row.length ≤ 1000) (hG : Good w) (hop : op = 3) (i : Int) (hi : JC cols A 0 = i) (hi0 : 0 ≤ i) (hi1 : i < row.length) (hv0 : -9223372036854775808 ≤ (rdV row i).f1) (hv1 : (rdV row i).f1 ≤ 9223372036854775807) (hv2 : (rdV row i).f2.size ≤ 1000000) :
  Calls Tryz.prog 59 #[.agg #[.int .i64 op, .string A, .string B, .string C, .string S, .int .i64 N, .int .i64 k, .int .i64 m, .string s], .slice A0 cols.length c0, .slice A1 row.length c1] w (RowR (row.take i.toNat ++ [(splitS (rdV row i).f2 S).1, (splitS (rdV row i).f2 S).2] ++ row.drop (i.toNat + 1)) w) := by
 obtain rfl : op = 3 := hop
 have HR := JN hr0
 have HRW := JN hr1
 have HG := JN hG
 have hlen1 : row.length ≤ 9223372036854775807 := by omega
 clear hr0 hG
 have HB0 : Jv (∀ o, Below w.heap.size w (w.alloc o)) := ⟨fun o => JD (Below.refl w.heap.size w) o⟩
 have BX0 : Jv (∀ o, (w.alloc o).heap[w.heap.size]? = some o) := ⟨fun o => heap_alloc_new w o⟩
 have HCL : Jv (api_Value.f row = some row) := ⟨KO⟩
 have HF : Jv (shape_Find.f cols A = some i) := ⟨KF⟩
 clear hi
 have hu1 := Tryz.underlying29
 have hu2 := Tryz.underlying53
 have hu3 := Tryz.underlying27
 obtain ⟨ad, e, h0, h1, h2⟩ := at_T27 hr1 i hi0 hi1
 cases e
 have HX0 := JN h0
 have HX1 := JN h1
 have HX2 := JN h2
 have p := eq_true hi0
 have q := eq_true hi1
 clear h0 h1 h2
 obtain ⟨q, hq⟩ : ∃ q, splitS (rdV row i).f2 S = q := ⟨_, rfl⟩
 have HCV : Jv (∀ W, Below w.heap.size w W → Calls Tryz.prog 106 #[.string (rdV row i).f2, .string S] W fun e w' => e = .returned (.tuple #[.agg #[.int .i64 q.1.f0, .int .i64 q.1.f1, .string q.1.f2], .agg #[.int .i64 q.2.f0, .int .i64 q.2.f1, .string q.2.f2]]) ∧ Below W.heap.size W w') :=
  ⟨fun W hb => by have := split_calls (rdV row i).f2 S W (HG.out.below hb) (by omega); rwa [hq] at this⟩
 rw [hq]
 clear hq hv0 hv1 hv2
 clear hr1
 go_enter Tryz.func59, Tryz.ntmps59
 go_wp2_with (first
  | (go_at_call 45; refine (shape_Find.calls _ _ _ _ _ _ (Kd.C_below HR.out (HB0.out _)) hc0 HF.out).mono ?_; rintro e w1 ⟨rfl, hb⟩; obtain ⟨hc, hf⟩ := bcell2 hb; have hz : w.heap.size < w1.heap.size := by { have h_ := hb.size; (try simp at h_); omega }; have BX := JN (JJ (BX0.out (.cells #[.int .i64 3, .string A, .string B, .string C, .string S, .int .i64 N, .int .i64 k, .int .i64 m, .string s] 29 (0, 0))) hb); have HB := JN (JA (HB0.out _) (HB0.out _).size hb); clear hb)
  | (go_at_call 58; refine (api_Value.calls _ _ _ _ _ (Kd.C_below HRW.out HB.out) hc1 HCL.out).mono ?_; rintro e w1 ⟨v0, rfl, hv, hb⟩; obtain ⟨hc, hf⟩ := bcell2 hb; have hz : w.heap.size < w1.heap.size := by { have h_ := hb.size; (try simp at h_); omega }; have HV : Jv (Kd.R k27 27 w1 (w.heap.size + 1) (fun _ => True) v0 row) := ⟨Kd.R_lower hv (by omega)⟩; clear hv; have BX' := JN (JJ BX.out hb); clear BX; have BX := BX'; clear BX'; have HB' := JN (JA HB.out HB.out.size hb); clear HB; have HB := HB'; clear HB' hb; obtain ⟨g, cap, rfl, hg0, hg1, hg2⟩ := ownVal HV.out (by omega)))
 have hx2 := (HB.out.cell (JO w _ HX2.out)).trans HX2.out
 have hne : (ad.add (i.toNat * 3)).block ≠ g := by have := JO w _ HX2.out; (try simp only at this); omega
 have hgn : w.heap.size ≠ g := by omega
 have bx4 : w1.cell? ⟨w.heap.size, 4, none⟩ = some (.string S) := (Jw BX.out 4).trans rfl
 have hb1 : (ad.add (i.toNat * 3)).block < w1.heap.size := by have := JO w1 _ hx2; exact this
 have hna : w1.heap.size ≠ (ad.add (i.toNat * 3)).block := by omega
 have hnb : w1.heap.size + 1 ≠ (ad.add (i.toNat * 3)).block := by omega
 have hnc : w1.heap.size ≠ w.heap.size := by omega
 have hnd : w1.heap.size + 1 ≠ w.heap.size := by omega
 go_region_held3 (fun w' => w'.cell? ⟨(ad.add (i.toNat * 3)).block, (ad.add (i.toNat * 3)).off + 2, none⟩ = some (.string (rdV row i).f2) ∧ w'.cell? ⟨w.heap.size, 4, none⟩ = some (.string S)) (go_keep) (first | (go_at_call 106; (with_reducible refine (HCV.out (w1.drew) (JH HB.out)).mono ?_); rintro e w2 ⟨rfl, hb⟩; have BX2 := JN (JJ (JF BX.out) hb); have HB2 := JN (Below.trans (JH HB.out) (hb.mono (show w.heap.size ≤ _ by simp; omega))); have yhx2 := (HB2.out.cell (JO w _ HX2.out)).trans HX2.out; have ybx4 : w2.cell? ⟨w.heap.size, 4, none⟩ = some (.string S) := (Jw BX2.out 4).trans rfl; have HL2 : Jv (Below w1.heap.size w1 w2) := ⟨Below.trans (bl_drew (Below.refl _ _)) (hb.mono (by simp <;> omega))⟩; have hl2 : w1.heap.size ≤ w2.heap.size := HL2.out.size; clear hb) | (go_at_call 106; (with_reducible refine (HCV.out ((w1.alloc (.cells #[.int .i64 0, .int .i64 0, .string ⟨#[]⟩] 27 (0, 0))).drew) (JH (JD HB.out _))).mono ?_); rintro e w2 ⟨rfl, hb⟩; have BX2 := JN (JJ (JF (JE BX.out _)) hb); have HB2 := JN (Below.trans (JH (JD HB.out _)) (hb.mono (show w.heap.size ≤ _ by simp; omega))); have yhx2 := (HB2.out.cell (JO w _ HX2.out)).trans HX2.out; have ybx4 : w2.cell? ⟨w.heap.size, 4, none⟩ = some (.string S) := (Jw BX2.out 4).trans rfl; have HL2 : Jv (Below w1.heap.size w1 w2) := ⟨Below.trans (bl_drew (bl_alloc (Below.refl _ _) (Nat.le_refl _) _)) (hb.mono (by simp <;> omega))⟩; have hl2 : w1.heap.size ≤ w2.heap.size := HL2.out.size; have ba := keep_one hb; obtain ⟨za0, za1, za2, za3, za4, za5⟩ := cells3 ba; have hl3 : w1.heap.size < w2.heap.size := (blk_lt ba); have hl4 : ¬ w1.heap.size = w2.heap.size := (by omega); have hl5 : ¬ w2.heap.size = w1.heap.size := (by omega); clear ba; clear hb) | (go_at_call 106; (with_reducible refine (HCV.out (((w1.alloc (.cells #[.int .i64 0, .int .i64 0, .string ⟨#[]⟩] 27 (0, 0))).alloc (.cells #[.int .i64 0, .int .i64 0, .string ⟨#[]⟩] 27 (0, 0))).drew) (JH (JD (JD HB.out _) _))).mono ?_); rintro e w2 ⟨rfl, hb⟩; have BX2 := JN (JJ (JF (JE (JE BX.out _) _)) hb); have HB2 := JN (Below.trans (JH (JD (JD HB.out _) _)) (hb.mono (show w.heap.size ≤ _ by simp; omega))); have yhx2 := (HB2.out.cell (JO w _ HX2.out)).trans HX2.out; have ybx4 : w2.cell? ⟨w.heap.size, 4, none⟩ = some (.string S) := (Jw BX2.out 4).trans rfl; have HL2 : Jv (Below w1.heap.size w1 w2) := ⟨Below.trans (bl_drew (bl_alloc (bl_alloc (Below.refl _ _) (Nat.le_refl _) _) (by simp) _)) (hb.mono (by simp <;> omega))⟩; have hl2 : w1.heap.size ≤ w2.heap.size := HL2.out.size; obtain ⟨ba, bb⟩ := keep_two hb; obtain ⟨za0, za1, za2, za3, za4, za5⟩ := cells3 ba; obtain ⟨zb0, zb1, zb2, zb3, zb4, zb5⟩ := cells3 bb; have hl3 : w1.heap.size + 1 < w2.heap.size := (blk_lt bb); have hl4 : ¬ w1.heap.size + 1 = w2.heap.size := (by omega); have hl5 : ¬ w1.heap.size = w2.heap.size := (by omega); clear ba bb; clear hb))
 all_goals (go_wp2_with (go_at_call 107; refine (split_val2 w w1 _ _ _ _ _ HB.out (by omega) HV.out ?hbl hi0 hi1 (by omega) q.1 q.2 _ (by simp) (by omega)).mono ?_; (case hbl => repeat (first | (with_reducible exact HL2.out) | (with_reducible refine bl_alloc ?_ ?_ _) | (with_reducible refine bl_set ?_ ?_ _) | omega | (simp; omega))); rintro e w3 ⟨v1, rfl, hv, hb⟩; have HV3 := JN hv; have HB3 := JN hb; clear hv hb))
 all_goals go_ret
 all_goals exact ⟨_, rfl, HV3.out, HB3.out⟩
theorem fwd_join (op : Int) (A B C S : ByteArray) (N k m : Int) (s : ByteArray) (A0 : Option Addr) (c0 : Nat) (cols : List Col) (A1 : Option Addr) (c1 : Nat) (row : List Val) (w : World) (hr0 : Kd.C k53 w A0 cols.length cols) (hc0 : cols.length ≤ c0) (hr1 : Kd.C k27 w A1 row.length row) (hc1 : row.length ≤ c1) (hn : row.length ≤ 1000) (hG : Good w) (hop : op = 4) (i : Int) (hi : JC cols A 0 = i) (hi0 : 0 ≤ i) (hi1 : i < row.length) (hv0 : -9223372036854775808 ≤ (rdV row i).f1) (hv1 : (rdV row i).f1 ≤ 9223372036854775807) (hv2 : (rdV row i).f2.size ≤ 1000000) (j : Int) (hj : JC cols B 0 = j) (hj0 : 0 ≤ j) (hj1 : j < row.length) (hvj : (rdV row j).f2.size ≤ 1000000) (hsep : S.size ≤ 1000000) :
  Calls Tryz.prog 59 #[.agg #[.int .i64 op, .string A, .string B, .string C, .string S, .int .i64 N, .int .i64 k, .int .i64 m, .string s], .slice A0 cols.length c0, .slice A1 row.length c1] w (RowR ((row.set i.toNat (cutV ((rdV row i).f2 ++ S ++ (rdV row j).f2))).eraseIdx j.toNat) w) := by
 obtain rfl : op = 4 := hop
 have HR := JN hr0
 have HRW := JN hr1
 have HG := JN hG
 have hlen1 : row.length ≤ 9223372036854775807 := by omega
 clear hr0 hG
 have HB0 : Jv (∀ o, Below w.heap.size w (w.alloc o)) := ⟨fun o => JD (Below.refl w.heap.size w) o⟩
 have BX0 : Jv (∀ o, (w.alloc o).heap[w.heap.size]? = some o) := ⟨fun o => heap_alloc_new w o⟩
 have HCL : Jv (api_Value.f row = some row) := ⟨KO⟩
 have HF : Jv (shape_Find.f cols A = some i) := ⟨KF⟩
 clear hi
 have hu1 := Tryz.underlying29
 have hu2 := Tryz.underlying53
 have hu3 := Tryz.underlying27
 obtain ⟨ad, e, h0, h1, h2⟩ := at_T27 hr1 i hi0 hi1
 cases e
 have HX0 := JN h0
 have HX1 := JN h1
 have HX2 := JN h2
 clear h0 h1 h2
 obtain ⟨ad', e, j0, j1, j2⟩ := at_T27 hr1 j hj0 hj1
 cases e
 have JX2 := JN j2
 clear j0 j1 j2
 have p := eq_true hi0
 have q := eq_true hi1
 have pj := eq_true hj0
 have qj := eq_true hj1
 have HF2 : Jv (shape_Find.f cols B = some j) := ⟨by unfold shape_Find.f; rw [hj]⟩
 clear hj
 have sz1 : (rdV row i).f2.size + S.size ≤ 9223372036854775807 := by omega
 have sz2 : (rdV row i).f2.size + S.size + (rdV row j).f2.size ≤ 9223372036854775807 := by omega
 have z1 : (9223372036854775807 < (rdV row i).f2.size + S.size) = False := eq_false (by omega)
 have z2 : (9223372036854775807 < (rdV row i).f2.size + S.size + (rdV row j).f2.size) = False := eq_false (by omega)
 clear hv0 hv1 hv2 hvj hsep
 clear hr1
 go_enter Tryz.func59, Tryz.ntmps59
 go_wp2_with (first
  | (go_at_call 58; refine (api_Value.calls _ _ _ _ _ (Kd.C_below HRW.out HB.out) hc1 HCL.out).mono ?_; rintro e w1 ⟨v0, rfl, hv, hb⟩; obtain ⟨hc, hf⟩ := bcell2 hb; have hz : w.heap.size < w1.heap.size := by { have h_ := hb.size; (try simp at h_); omega }; have HV : Jv (Kd.R k27 27 w1 (w.heap.size + 1) (fun _ => True) v0 row) := ⟨Kd.R_lower hv (by omega)⟩; clear hv; have BX' := JN (JJ BX.out hb); clear BX; have BX := BX'; clear BX'; have HB' := JN (JA HB.out HB.out.size hb); clear HB; have HB := HB'; clear HB' hb; obtain ⟨g, cap, rfl, hg0, hg1, hg2⟩ := ownVal HV.out (by omega))
  | (go_at_call 45; (with_reducible refine (shape_Find.calls _ _ _ _ _ _ (Kd.C_below HR.out HB.out) hc0 HF2.out).mono ?_); rintro e w1 ⟨rfl, hb⟩; obtain ⟨hc, hf⟩ := bcell2 hb; have hz : w.heap.size < w1.heap.size := by { have h_ := hb.size; (try simp at h_); omega }; have HV' := JN (Kd.R_below HV.out hb); clear HV; have HV := HV'; clear HV'; have BX' := JN (JJ BX.out hb); clear BX; have BX := BX'; clear BX'; have HB' := JN (JA HB.out HB.out.size hb); clear HB; have HB := HB'; clear HB' hb)
  | (go_at_call 45; refine (shape_Find.calls _ _ _ _ _ _ (Kd.C_below HR.out (HB0.out _)) hc0 HF.out).mono ?_; rintro e w1 ⟨rfl, hb⟩; obtain ⟨hc, hf⟩ := bcell2 hb; have hz : w.heap.size < w1.heap.size := by { have h_ := hb.size; (try simp at h_); omega }; have BX := JN (JJ (BX0.out (.cells #[.int .i64 4, .string A, .string B, .string C, .string S, .int .i64 N, .int .i64 k, .int .i64 m, .string s] 29 (0, 0))) hb); have HB := JN (JA (HB0.out _) (HB0.out _).size hb); clear hb))
 have hx2 := (HB.out.cell (JO w _ HX2.out)).trans HX2.out
 have hne : (ad.add (i.toNat * 3)).block ≠ g := by have := JO w _ HX2.out; (try simp only at this); omega
 have hgn : w.heap.size ≠ g := by omega
 have bx4 : w1.cell? ⟨w.heap.size, 4, none⟩ = some (.string S) := (Jw BX.out 4).trans rfl
 have hnej : (ad.add (j.toNat * 3)).block ≠ g := by have := JO w _ JX2.out; (try simp only at this); omega
 have jx2 := (HB.out.cell (JO w _ JX2.out)).trans JX2.out
 go_region_held3 (fun w' => w'.cell? ⟨(ad.add (i.toNat * 3)).block, (ad.add (i.toNat * 3)).off + 2, none⟩ = some (.string (rdV row i).f2) ∧ w'.cell? ⟨(ad.add (j.toNat * 3)).block, (ad.add (j.toNat * 3)).off + 2, none⟩ = some (.string (rdV row j).f2) ∧ w'.cell? ⟨w.heap.size, 4, none⟩ = some (.string S)) (first | exact ⟨hx2, jx2, bx4⟩ | exact ⟨yhx2, yjx2, ybx4⟩ | exact ⟨(far3c (a := ⟨_, _, none⟩) hne _ _ _ _ _ _).trans yhx2, (far3c (a := ⟨_, _, none⟩) hnej _ _ _ _ _ _).trans yjx2, (far3c (a := ⟨_, _, none⟩) hgn _ _ _ _ _ _).trans ybx4⟩) (first | (go_at_call 108; refine (cut_calls _ _).mono ?_; rintro e w2 ⟨rfl, hb⟩; have BX2 := JN (JJ (JF BX.out) hb); have HB2 := JN (JA (JH HB.out) (JH HB.out).size hb); have yhx2 := (HB2.out.cell (JO w _ HX2.out)).trans HX2.out; have yjx2 := (HB2.out.cell (JO w _ JX2.out)).trans JX2.out; have ybx4 : w2.cell? ⟨w.heap.size, 4, none⟩ = some (.string S) := (Jw BX2.out 4).trans rfl; have HV2 := JN (Kd.R_below (Kd.R_drew HV.out) hb); have hq := getVal HV2.out rfl i hi0 hi1 0 (by omega); have hr0 : w2.cell? ⟨g, i.toNat * 3, none⟩ = some (.int .i64 (rdV row i).f0) := hq.1; have hs0 : w2.frozen? ⟨g, i.toNat * 3, none⟩ = false := hq.2; clear hq; have hq := getVal HV2.out rfl i hi0 hi1 1 (by omega); have hr1 : w2.cell? ⟨g, i.toNat * 3 + 1, none⟩ = some (.int .i64 (rdV row i).f1) := hq.1; have hs1 : w2.frozen? ⟨g, i.toNat * 3 + 1, none⟩ = false := hq.2; clear hq; have hq := getVal HV2.out rfl i hi0 hi1 2 (by omega); have hr2 : w2.cell? ⟨g, i.toNat * 3 + 2, none⟩ = some (.string (rdV row i).f2) := hq.1; have hs2 : w2.frozen? ⟨g, i.toNat * 3 + 2, none⟩ = false := hq.2; clear hq; clear hb))
 try go_wp2_with (go_at_call 105; refine (deleteVal j (j + 1) _ _ _ _ _ (put3Val HV2.out rfl i hi0 hi1 _ _ _) hj0 (Jg) rfl).mono ?_; rintro e w3 ⟨v1, rfl, hvo, hv, hb⟩; have HV3 := JN hv; clear hv hvo; have HB3 := JN ((below3r HB2.out (show w.heap.size ≤ g by omega) _ _ _ _ _ _).trans (hb.mono (show w.heap.size ≤ w.heap.size + 1 by omega))); clear hb)
 go_ret
 exact ⟨_, rfl, Kd.R_lower HV3.out (show w.heap.size ≤ w.heap.size + 1 by omega), HB3.out⟩
def fwdS (x : Step) (row : List Val) (i j : Int) : List Val :=
 if x.f0 = 0 then row ++ [x.f6]
 else if x.f0 = 1 then row.eraseIdx i.toNat
 else if x.f0 = 3 then row.take i.toNat ++ [(splitS (rdV row i).f2 x.f4).1, (splitS (rdV row i).f2 x.f4).2] ++ row.drop (i.toNat + 1)
 else if x.f0 = 4 then (row.set i.toNat (cutV ((rdV row i).f2 ++ x.f4 ++ (rdV row j).f2))).eraseIdx j.toNat
 else if x.f0 = 5 then row.set i.toNat (convS (rdV row i) x.f5 x.f6)
 else if x.f0 = 6 then row.set i.toNat ⟨0, IntKind.i64.wrap ((rdV row i).f1 * x.f5), ⟨#[]⟩⟩
 else row
def okV (v : Val) : Prop := -9223372036854775808 ≤ v.f1 ∧ v.f1 ≤ 9223372036854775807 ∧ v.f2.size ≤ 1000000
theorem okV_at {row : List Val} (h : ∀ v ∈ row, okV v) {i : Int} (h0 : 0 ≤ i) (h1 : i < row.length) : okV (rdV row i) := h _ (by
 have := rdv_at h0 h1
 exact List.mem_of_getElem? this)
theorem fwd_calls (x : Step) (A0 : Option Addr) (c0 : Nat) (cols : List Col) (A1 : Option Addr) (c1 : Nat) (row : List Val) (w : World) (hr0 : Kd.C k53 w A0 cols.length cols) (hc0 : cols.length ≤ c0) (hr1 : Kd.C k27 w A1 row.length row) (hc1 : row.length ≤ c1) (hn : row.length ≤ 1000) (hG : Good w)
  (hx0 : 0 ≤ x.f0) (hx6 : x.f0 ≤ 6) (hsep : x.f4.size ≤ 1000000) (hrow : ∀ v ∈ row, okV v) (hi : x.f0 ≠ 0 → x.f0 ≠ 2 → 0 ≤ JC cols x.f1 0 ∧ JC cols x.f1 0 < row.length) (hj : x.f0 = 4 → 0 ≤ JC cols x.f2 0 ∧ JC cols x.f2 0 < row.length) :
  Calls Tryz.prog 59 #[.agg #[.int .i64 x.f0, .string x.f1, .string x.f2, .string x.f3, .string x.f4, .int .i64 x.f5, .int .i64 x.f6.f0, .int .i64 x.f6.f1, .string x.f6.f2], .slice A0 cols.length c0, .slice A1 row.length c1] w
   (RowR (fwdS x row (JC cols x.f1 0) (JC cols x.f2 0)) w) := by
 obtain ⟨op, A, B, C, S, N, k, m, s⟩ := x
 simp only at hx0 hx6 hsep hi hj ⊢
 have hop : op = 0 ∨ op = 1 ∨ op = 2 ∨ op = 3 ∨ op = 4 ∨ op = 5 ∨ op = 6 := by omega
 rcases hop with h | h | h | h | h | h | h
 ·
  have := fwd_add op A B C S N k m s A0 c0 cols A1 c1 row w hr0 hc0 hr1 hc1 hn hG h _ rfl
  subst h; exact this
 ·
  have h2 := hi (by omega) (by omega)
  have := fwd_drop op A B C S N k m s A0 c0 cols A1 c1 row w hr0 hc0 hr1 hc1 hn hG h _ rfl h2.1 h2.2
  subst h; exact this
 ·
  have := fwd_same op A B C S N k m s A0 c0 cols A1 c1 row w hr0 hc0 hr1 hc1 hn hG h _ rfl
  subst h; exact this
 ·
  have h2 := hi (by omega) (by omega)
  have hv := okV_at hrow h2.1 h2.2
  have := fwd_split op A B C S N k m s A0 c0 cols A1 c1 row w hr0 hc0 hr1 hc1 hn hG h _ rfl h2.1 h2.2 hv.1 hv.2.1 hv.2.2
  subst h; exact this
 ·
  have h2 := hi (by omega) (by omega)
  have hv := okV_at hrow h2.1 h2.2
  have h3 := hj h
  have hw := okV_at hrow h3.1 h3.2
  have := fwd_join op A B C S N k m s A0 c0 cols A1 c1 row w hr0 hc0 hr1 hc1 hn hG h _ rfl h2.1 h2.2 hv.1 hv.2.1 hv.2.2 _ rfl h3.1 h3.2 hw.2.2 hsep
  subst h; exact this
 ·
  have h2 := hi (by omega) (by omega)
  have hv := okV_at hrow h2.1 h2.2
  have := fwd_retype op A B C S N k m s A0 c0 cols A1 c1 row w hr0 hc0 hr1 hc1 hn hG h _ rfl h2.1 h2.2 hv.1 hv.2.1 hv.2.2
  subst h; exact this
 ·
  have h2 := hi (by omega) (by omega)
  have := fwd_scale op A B C S N k m s A0 c0 cols A1 c1 row w hr0 hc0 hr1 hc1 hn hG h _ rfl h2.1 h2.2
  subst h; exact this
theorem drop_rdV (l : List Val) (x : Int) (h0 : 0 ≤ x) (h1 : x < l.length) : l.drop x.toNat = rdV l x :: l.drop (x + 1).toNat := by
 rw [List.drop_eq_getElem_cons (by omega), show (x + 1).toNat = x.toNat + 1 by omega]
 simp [rdV, rd_T27, List.getD, List.getElem?_eq_getElem (show x.toNat < l.length by omega)]
def rightRowB (l : List Val) : Bool := decide (l.length ≤ 12) && l.all rightV
theorem rightRow_is (l : List Val) : value_RightRow.f l = some (rightRowB l) := by
 unfold value_RightRow.f rightRowB
 by_cases h : (l.length : Int) ≤ 12
 ·
  have h' : decide (l.length ≤ 12) = true := decide_eq_true (by omega)
  rw [if_pos h, h']
  rfl
 ·
  have h' : decide (l.length ≤ 12) = false := decide_eq_false (by omega)
  rw [if_neg h, h']
  rfl
def fitsB (row : List Val) (cols : List Col) : Bool := rightRowB row && (row.map (·.f0) == cols.map (·.f1))
theorem fits_loop (row : List Val) (cols : List Col) (hl : cols.length ≤ maxLen) (he : row.length = cols.length) : ∀ (d : Nat) (x : Int), 0 ≤ x → x ≤ cols.length → (cols.length : Int) - x = d →
  Ev (fun k => shape_Fits.l0 k row cols (cols.length : Int) x) ((row.drop x.toNat).map (·.f0) == (cols.drop x.toNat).map (·.f1)) := by
 intro d
 induction d with
 | zero =>
  intro x h0 h1 hd
  refine Ev.step (fun k => rfl) (ev_if_neg (by omega) ?_)
  rw [List.drop_of_length_le (by omega), List.drop_of_length_le (by omega)]
  exact Ev.now _
 | succ d ih =>
  intro x h0 h1 hd
  have hx : x < cols.length := by omega
  refine Ev.step (fun k => rfl) (ev_if_pos hx (ev_if_pos h0 (ev_if_pos hx (ev_if_pos (by omega) ?_))))
  rw [drop_rdC cols x h0 hx, drop_rdV row x h0 (by omega), wrap_succ h0 hx hl]
  by_cases e : (rdV row x).f0 = (rdC cols x).f1
  ·
   refine ev_if_pos e ?_
   have := ih (x + 1) (by omega) (by omega) (by omega)
   simpa [e] using this
  ·
   refine ev_if_neg e ?_
   simp only [List.map_cons, List.cons_beq_cons, beq_eq_false_iff_ne.mpr e, Bool.false_and]
   exact Ev.now _
theorem ev_fits (row : List Val) (cols : List Col) (hl : cols.length ≤ maxLen) : Ev (fun k => shape_Fits.f k row cols) (fitsB row cols) := by
 unfold shape_Fits.f fitsB
 by_cases he : (row.length : Int) = (cols.length : Int)
 ·
  refine ev_if_pos he (ev_bind_some (fun k => rightRow_is row) ?_)
  refine Ev.step (fun k => rfl) ?_
  by_cases hr : rightRowB row = true
  ·
   refine ev_if_neg (by simp [hr]) ?_
   have := fits_loop row cols hl (by omega) cols.length 0 (by omega) (by omega) (by omega)
   simpa [hr] using this
  ·
   refine ev_if_pos (by simp [hr]) ?_
   simp only [Bool.not_eq_true] at hr
   simp only [hr, Bool.false_and]
   exact Ev.now _
 ·
  refine ev_if_neg he (Ev.step (f := fun _ => some false) (fun k => rfl) ?_)
  have : (row.map (·.f0) == cols.map (·.f1)) = false := by
   rw [beq_eq_false_iff_ne]
   intro h
   have := congrArg List.length h
   simp at this
   omega
  simp only [this, Bool.and_false]
  exact Ev.now _
def emptyV (t : Int) : Val := ⟨t, 0, ⟨#[]⟩⟩
def defaultL (cols : List Col) : List Val := cols.map fun c => emptyV c.f1
theorem default_loop (cols : List Col) (hl : cols.length ≤ maxLen) : ∀ (d : Nat) (x : Int) (row : List Val), 0 ≤ x → x ≤ cols.length → (cols.length : Int) - x = d → row.length = cols.length →
  Ev (fun k => shape_Default.l0 k row cols (cols.length : Int) x) (row.take x.toNat ++ defaultL (cols.drop x.toNat)) := by
 intro d
 induction d with
 | zero =>
  intro x row h0 h1 hd he
  refine Ev.step (fun k => rfl) (ev_if_neg (by omega) ?_)
  rw [List.drop_of_length_le (by omega), List.take_of_length_le (by omega)]
  simp only [defaultL, List.map_nil, List.append_nil]
  exact Ev.now _
 | succ d ih =>
  intro x row h0 h1 hd he
  have hx : x < cols.length := by omega
  refine Ev.step (fun k => rfl) (ev_if_pos hx (ev_if_pos h0 (ev_if_pos hx ?_)))
  refine ev_bind_some (fun k => rfl) (ev_if_pos (by omega) ?_)
  rw [wrap_succ h0 hx hl]
  have := ih (x + 1) (row.set x.toNat (emptyV (rdC cols x).f1)) (by omega) (by omega) (by omega) (by simpa using he)
  rw [drop_rdC cols x h0 hx]
  have e : (row.set x.toNat (emptyV (rdC cols x).f1)).take (x + 1).toNat = row.take x.toNat ++ [emptyV (rdC cols x).f1] := by
   rw [show (x + 1).toNat = x.toNat + 1 by omega, List.take_succ_eq_append_getElem (Jc)]
   simp
   rw [List.take_set, List.set_eq_of_length_le (Jc)]
  rw [e, List.append_assoc] at this
  exact this
theorem ev_default (cols : List Col) (hl : cols.length ≤ 8796093022208) : Ev (fun k => shape_Default.f k cols) (defaultL cols) := by
 unfold shape_Default.f
 refine ev_if_pos (by omega) (ev_if_pos (by omega) ?_)
 have := default_loop cols (by unfold maxLen; omega) cols.length 0 (List.replicate cols.length z27) (by omega) (by omega) (by omega) (by simp)
 simpa using this
def rightS (x : Step) : Bool := ownB x.f1 && (
 if x.f0 = 0 then usedB x (!(x.f2.toList == ([] : List UInt8))) false false false true && (x.f2.toList == ([] : List UInt8) || x.f6.f0 == 0)
 else if x.f0 = 1 then usedB x false false false false true
 else if x.f0 = 2 then usedB x true false false false false
 else if x.f0 = 3 then usedB x true true true false false
 else if x.f0 = 4 then usedB x true true true false false && !(x.f1.toList == x.f2.toList)
 else if x.f0 = 5 then usedB x false false false true true && decide (0 ≤ x.f5) && decide (x.f5 < 3) && x.f6.f0 == x.f5
 else if x.f0 = 6 then usedB x (!(x.f2.toList == ([] : List UInt8))) false false true false && !(x.f5 == 0)
 else false)
theorem sright_calls (x : Step) (w : World) :
  Calls Tryz.prog 11 #[.agg #[.int .i64 x.f0, .string x.f1, .string x.f2, .string x.f3, .string x.f4, .int .i64 x.f5, .int .i64 x.f6.f0, .int .i64 x.f6.f1, .string x.f6.f2]] w
   fun e w' => e = .returned (.bool (rightS x)) ∧ Below w.heap.size w w' := by
 obtain ⟨op, A, B, C, S, N, k, m, s⟩ := x
 have bcell : ∀ {W w1 : World}, Below W.heap.size W w1 → (∀ b o, b < W.heap.size → w1.cell? ⟨b, o, none⟩ = W.cell? ⟨b, o, none⟩) := fun hb b o h => hb.cell (p := ⟨b, o, none⟩) h
 have HBC := JN @bcell
 clear bcell
 have HB := JN (JD (Below.refl w.heap.size w) (.cells #[.int .i64 op, .string A, .string B, .string C, .string S, .int .i64 N, .int .i64 k, .int .i64 m, .string s] 29))
 have hu1 := Tryz.underlying29
 have hu2 := Tryz.underlying57
 have hu3 := Tryz.underlying27
 go_enter Tryz.func11, Tryz.ntmps11
 go_wp2_with (first
  | (go_at_call 34; refine (isName_calls _ _).mono ?_; rintro e w1 ⟨rfl, hb⟩; have hc := HBC.out hb; have hz : w.heap.size < w1.heap.size := by { have h_ := hb.size; (try simp at h_); omega }; have HB' := JN (HB.out.trans (hb.mono (Nat.le_trans HB.out.size (Nat.le_refl _)))); clear HB; have HB := HB'; clear HB' hb)
  | (go_at_call 35; refine (used_calls ⟨op, A, B, C, S, N, k, m, s⟩ _ _ _ _ _ _).mono ?_; rintro e w1 ⟨rfl, hb⟩; have hc := HBC.out hb; have hz : w.heap.size < w1.heap.size := by { have h_ := hb.size; (try simp at h_); omega }; have HB' := JN (HB.out.trans (hb.mono (Nat.le_trans HB.out.size (Nat.le_refl _)))); clear HB; have HB := HB'; clear HB' hb))
 all_goals go_ret
 all_goals (refine ⟨?_, HB.out⟩)
 all_goals (refine congrArg (fun q => Ending.returned (.bool q)) ?_)
 all_goals (clear HBC HB hu1 hu2 hu3)
 all_goals (simp only [rightS])
 all_goals (simp_all)
 all_goals first | rfl | (intros; omega)
theorem replace2EndCol (i n : Nat) (g cap : Nat) (cur : Array Value) (l : List S53) (base : Nat) (w : World) (hbg : base ≤ g) (hg : w.heap[g]? = some (.cells cur 53 (0, 0))) (hn : n = l.length) (hnc : n ≤ cap) (hcm : cap ≤ maxLen) (hcs : cur.size = cap * 3)
  (htake : cur.toList.take (n * 3) = cellsOf encCol l) (hi : i + 1 = n) (vb : Nat) (a b : S53) (hv : w.heap[vb]? = some (.cells (encCol a ++ encCol b).toArray 53 (0, 0))) (hlen : (n + 1) * 40 ≤ 140737488355328) (hbase : base ≤ w.heap.size) :
  Calls Tryz.prog 49 #[.slice (some ⟨g, 0, none⟩) n cap, .int .i64 (i : Int), .int .i64 (n : Int), .slice (some ⟨vb, 0, none⟩) 2 2] w fun e w' => ∃ v0_ : Value, e = .returned v0_ ∧ Kd.R k53 53 w' base (fun _ => True) v0_ (l.take i ++ [a, b]) ∧ Below base w w' := by
 obtain ⟨i0, hi0, hz0, hz1, hz2⟩ := infoCol
 have mixed : Tryz.prog.follows Departure.mixedOrders = true := by kernel_rfl
 have hown : w.ownsRow base 53 3 (.slice (some ⟨g, 0, none⟩) i cap) i (cellsOf encCol (l.take i)) := by
  refine ⟨by rw [JI encCol_len, List.length_take]; omega, .inr ⟨g, cap, cur, rfl, hbg, hg, by omega, hcm, hcs, ?_⟩⟩
  rw [← cellsOf_take encCol_len, ← htake, List.take_take, Nat.min_eq_left (by omega)]
 have hsrc : Aside (∀ j u, (encCol a ++ encCol b)[j]? = some u → w.cell? ((⟨vb, 0, none⟩ : Addr).add j) = some u) := by
  intro j u hu
  rw [Addr.add_lit, cell_of_row w vb _ _ 53 (0, 0) hv, Nat.zero_add]
  simpa using hu
 have HO := JN hown
 have HT := JN (show (l.take i).length = i by rw [List.length_take]; omega)
 have hi1 : i < n := by omega
 have hic : i ≤ cap := by omega
 have hcm' : cap ≤ 9223372036854775807 := by unfold maxLen at hcm; omega
 have heq : ¬ (i = n) := by omega
 clear hown hg hv htake hcs hn
 go_enter Tryz.func49, Tryz.ntmps49
 go_wp2_with (at_builtin; refine wpList_append_own _ rfl _ _ 35 rfl base 53 i0 (.agg (encCol z53).toArray) 3 40 Tryz.underlying35 hi0 hz0 hz1 hz2 rfl (by omega) _ _ _ rfl HO.out ⟨vb, 0, none⟩ 2 2 (encCol a ++ encCol b) rfl ?qc1 ?qc2 ?qc3 ?qc4 ?qc5 ?qc6 ?_)
 case qc1 => rfl
 case qc2 => exact hsrc.out
 case qc3 =>
  intro u hu
  rcases List.mem_append.1 hu with hu | hu
  ·
   exact encCol_one _ _ hu
  ·
   exact encCol_one _ _ hu
 case qc4 => unfold maxLen; omega
 case qc5 => rw [show i + 2 = n + 1 by omega]; exact hlen
 case qc6 => exact hbase
 intro v' w1 hown1 hgrow hnil
 obtain ⟨g1, cap1, cur1, rfl, h1, h2, h3, h4, h5, h6⟩ := own_open hown1 (by omega)
 have HO1 := JN hown1
 have HG := JN hgrow
 have hlt : ¬ ((i : Int) + 2 < n) := by omega
 clear hown1 hgrow hnil h1 h2 h3 h4 h5 h6
 go_wp2
 go_ret
 refine ⟨_, rfl, ?_, ?_⟩
 ·
  refine makeCol (fun _ _ => trivial) ?_
  have := HO1.out
  rw [cellsOf_append, List.length_append, HT.out]
  simpa [cellsOf] using this
 ·
  exact (Below.refl base w).grown HG.out hbase (Jt)
theorem replace2RoomCol (i j n : Nat) (g cap : Nat) (cur : Array Value) (l : List S53) (base : Nat) (w : World) (hbg : base ≤ g) (hg : w.heap[g]? = some (.cells cur 53 (0, 0))) (hn : n = l.length) (hnc : n + 1 ≤ cap) (hcm : cap ≤ maxLen) (hcs : cur.size = cap * 3)
  (htake : cur.toList.take (n * 3) = cellsOf encCol l) (hj : j = i + 1) (hi : j < n) (vb : Nat) (a b : S53) (hv : w.heap[vb]? = some (.cells (encCol a ++ encCol b).toArray 53 (0, 0))) (hne : vb ≠ g) :
  Calls Tryz.prog 49 #[.slice (some ⟨g, 0, none⟩) n cap, .int .i64 (i : Int), .int .i64 (j : Int), .slice (some ⟨vb, 0, none⟩) 2 2] w fun e w' => ∃ v0_ : Value, e = .returned v0_ ∧ Kd.R k53 53 w' base (fun _ => True) v0_ (l.take i ++ [a, b] ++ l.drop j) ∧ Below base w w' := by
 obtain ⟨i0, hi0, hz0, hz1, hz2⟩ := infoCol
 have mixed : Tryz.prog.follows Departure.mixedOrders = true := by kernel_rfl
 have hsz : (Tryz.prog.info? 53).map (·.size) = some 3 := by rw [hi0]; simp [hz1]
 have hz3 : ∀ w, (Go.sizeOf 53).run Tryz.prog w = .ok 3 w := by intro w; simp [Go.sizeOf, typeInfo, hi0, hz1]
 have hcm' : cap ≤ 9223372036854775807 := by unfold maxLen at hcm; omega
 have hshg : w.shape? g = some (53, cur.size) := by simp [World.shape?, hg]
 have hshv : w.shape? vb = some (53, 6) := by simp [World.shape?, hv]
 have hov : ∀ nq lb cb, (callFunc 100 #[.slice (some ⟨g, (i + 2) * 3, none⟩) lb cb, .slice (some ⟨vb, 0, none⟩) 2 2]).run Tryz.prog (w.drewN nq) = .ok (.value (.bool false)) (w.drewN nq) := fun nq lb cb => by
  rw [run_callFunc_extern Tryz.func100 (Kg) (Kg) (Kg) (e := Extern.SlicesOverlaps.overlaps #[35, 35] #[4]) (Kg),
   Lib.run_overlaps_apart (w.drewN nq) 35 4 53 Tryz.underlying35 3 hz3 ⟨g, (i + 2) * 3, none⟩ ⟨vb, 0, none⟩ lb cb 2 2 (Ne.symm hne) 53 53 cur.size 6 hshg hshv (by omega) (row_frozen (w := w.drewN nq) hg _) (row_frozen (w := w.drewN nq) hg _)]
  rfl
 have hi1 : i < n := by omega
 have hij : i < j := by omega
 have heq : ¬ (i = j) := by omega
 have hjn : ¬ (j = n) := by omega
 have hjn' : j ≤ n := by omega
 have hic : i ≤ cap := by omega
 have hjc : j ≤ cap := by omega
 have hnc' : n ≤ cap := by omega
 have HJ := JN hj
 have HN := JN hn
 have hb2 : ¬ ((i : Int) + 2 ≤ (j : Int)) := by omega
 have hw1 : IntKind.i64.wrap ((i : Int) + 2) = (i : Int) + 2 := by rw [IntKind.wrap_i64]; omega
 have hw2 : IntKind.i64.wrap ((i : Int) + 2 + ((n - j : Nat) : Int)) = ((n + 1 : Nat) : Int) := by rw [IntKind.wrap_i64]; omega
 have hb1 : (0 : Int) ≤ (i : Int) + 2 := by omega
 have htn : ((i : Int) + 2).toNat = i + 2 := by omega
 obtain ⟨news, hnews⟩ : ∃ news, news = cellsOf encCol (l.drop j) := ⟨_, rfl⟩
 have hnl : news.length = (n - j) * 3 := by rw [hnews, JI encCol_len, List.length_drop, hn]
 have hn1 : ∀ u ∈ news, u.oneCell' = true := by rw [hnews]; exact cellsOf_one encCol_one _
 have hab1 : ∀ u ∈ encCol a ++ encCol b, u.oneCell' = true := by
  intro u hu
  rcases List.mem_append.1 hu with hu | hu
  ·
   exact encCol_one _ _ hu
  ·
   exact encCol_one _ _ hu
 have hcp1 : ∀ (W : World) (dl : Nat), W.heap[g]? = some (.cells cur 53 (0, 0)) → dl = n - (i + 1) → ∀ ty dc sc, (Builtin.copy_ #[35, 35] ty #[.slice (some ⟨g, (i + 2) * 3, none⟩) dl dc, .slice (some ⟨g, j * 3, none⟩) (n - j) sc]).run Tryz.prog W = .ok (goInt ((n - j : Nat) : Int)) (W.setCells g ((i + 2) * 3) news) := by
  intro W dl hW hdl ty dc sc
  have hmin : Nat.min (n - j) dl = n - j := by rw [hdl, hj]; exact Nat.min_self _
  have := run_copy_k (P := Tryz.prog) W 35 35 ty 53 3 g ((i + 2) * 3) dl dc ⟨g, j * 3, none⟩ (n - j) sc news Tryz.underlying35 hsz (by rw [hmin, hnl]) (fun t u hu => by
    have ht := (List.getElem?_eq_some_iff.1 hu).1
    rw [hnl] at ht
    rw [Addr.add_lit, cell_of_row W g _ cur 53 (0, 0) hW, ← Array.getElem?_toList]
    rw [hnews, ← cellsOf_drop encCol_len, List.getElem?_drop, ← htake, List.getElem?_take_of_lt (by omega)] at hu
    exact hu) (fun t ht => row_cell hW _ (by rw [hnl] at ht; rw [hcs]; omega)) (fun t ht => row_frozen hW _) hn1
  rw [hmin] at this
  exact this
 have hc1 : ∀ W : World, W.heap[g]? = some (.cells cur 53 (0, 0)) → W.setCells g ((i + 2) * 3) news = W.setRow g (cur.toList.take ((i + 2) * 3) ++ news ++ cur.toList.drop ((i + 2) * 3 + news.length)).toArray := fun W hW => row_setCells Tryz.prog hW _ _ (by rw [hnl, hcs]; omega) hn1
 have hs1 : (cur.toList.take ((i + 2) * 3) ++ news ++ cur.toList.drop ((i + 2) * 3 + news.length)).length = cap * 3 := by
  simp only [List.length_append, List.length_take, List.length_drop, Array.length_toList]
  omega
 have hW1g : ∀ W : World, W.heap[g]? = some (.cells cur 53 (0, 0)) → (W.setCells g ((i + 2) * 3) news).heap[g]? = some (.cells (cur.toList.take ((i + 2) * 3) ++ news ++ cur.toList.drop ((i + 2) * 3 + news.length)).toArray 53 (0, 0)) := fun W hW => by
  rw [hc1 W hW]; exact setRow_heap W g cur _ 53 _ hW
 have hW1v : ∀ W : World, W.heap[g]? = some (.cells cur 53 (0, 0)) → W.heap[vb]? = some (.cells (encCol a ++ encCol b).toArray 53 (0, 0)) → (W.setCells g ((i + 2) * 3) news).heap[vb]? = some (.cells (encCol a ++ encCol b).toArray 53 (0, 0)) := fun W hW hWv => by
  rw [hc1 W hW, setRow_other _ _ _ _ hne]; exact hWv
 have hcp2 : ∀ (W : World) (c1 : Array Value), W.heap[g]? = some (.cells c1 53 (0, 0)) → c1.size = cap * 3 → W.heap[vb]? = some (.cells (encCol a ++ encCol b).toArray 53 (0, 0)) → ∀ ty dc, (Builtin.copy_ #[35, 35] ty #[.slice (some ⟨g, i * 3, none⟩) (n + 1 - i) dc, .slice (some ⟨vb, 0, none⟩) 2 2]).run Tryz.prog W = .ok (goInt 2) (W.setCells g (i * 3) (encCol a ++ encCol b)) := by
  intro W c1 hW hcs1 hWv ty dc
  have hmin : Nat.min 2 (n + 1 - i) = 2 := Nat.min_eq_left (by omega)
  have := run_copy_k (P := Tryz.prog) W 35 35 ty 53 3 g (i * 3) (n + 1 - i) dc ⟨vb, 0, none⟩ 2 2 (encCol a ++ encCol b) Tryz.underlying35 hsz (by rw [hmin]; rfl) (fun t u hu => by
    rw [Addr.add_lit, cell_of_row W vb _ _ 53 (0, 0) hWv, Nat.zero_add]
    simpa using hu) (fun t ht => row_cell hW _ (by rw [hcs1]; simp [encCol] at ht; omega)) (fun t ht => row_frozen hW _) hab1
  rw [hmin] at this
  exact this
 have HV := JN hv
 have hb3 : (i : Int) + 2 ≤ (n : Int) + 1 := by omega
 have hb4 : ¬ (cap = i + 2) := by omega
 have hb5 : ¬ (cap = j) := by omega
 have hb6 : ¬ (cap = i) := by omega
 have hb7 : (i : Int) ≤ (n : Int) + 1 := by omega
 have hcp3 : ∀ q ty dc, (Builtin.copy_ #[35, 35] ty #[.slice (some ⟨g, i * 3, none⟩) (n + 1 - i) dc, .slice (some ⟨vb, 0, none⟩) 2 2]).run Tryz.prog ((w.drewN q).setCells g ((i + 2) * 3) news) = .ok (goInt 2) (((w.drewN q).setCells g ((i + 2) * 3) news).setCells g (i * 3) (encCol a ++ encCol b)) :=
  fun q ty dc => hcp2 _ _ (hW1g (w.drewN q) hg) (by rw [List.size_toArray]; exact hs1) (hW1v (w.drewN q) hg hv) ty dc
 have hfin : ∀ q, Kd.R k53 53 (((w.drewN q).setCells g ((i + 2) * 3) news).setCells g (i * 3) (encCol a ++ encCol b)) base (fun _ => True) (.slice (some ⟨g, 0, none⟩) (n + 1) cap) (l.take i ++ [a, b] ++ l.drop j) ∧ Below base w (((w.drewN q).setCells g ((i + 2) * 3) news).setCells g (i * 3) (encCol a ++ encCol b)) := by
  intro q
  have hr1 := hc1 (w.drewN q) hg
  have hg1 := hW1g (w.drewN q) hg
  have hel : (encCol a ++ encCol b).length = 6 := rfl
  have hr2 := row_setCells Tryz.prog hg1 (i * 3) (encCol a ++ encCol b) (by rw [List.size_toArray, hs1, hel]; omega) hab1
  have hll : (l.take i ++ [a, b] ++ l.drop j).length = n + 1 := by simp only [List.length_append, List.length_take, List.length_drop, List.length_cons, List.length_nil]; omega
  have hti : cur.toList.take (i * 3) = cellsOf encCol (l.take i) := by
   rw [← cellsOf_take encCol_len, ← htake, List.take_take, Nat.min_eq_left (by omega)]
  have hctl : cur.toList.length = cap * 3 := by rw [Array.length_toList, hcs]
  have ht1 : (cur.toList.take ((i + 2) * 3) ++ news ++ cur.toList.drop ((i + 2) * 3 + news.length)).take (i * 3) = cellsOf encCol (l.take i) := by
   rw [List.append_assoc, List.take_append_of_le_length (by rw [List.length_take, hctl]; omega), List.take_take, Nat.min_eq_left (by omega), hti]
  have hd1 : (cur.toList.take ((i + 2) * 3) ++ news ++ cur.toList.drop ((i + 2) * 3 + news.length)).drop (i * 3 + 6) = news ++ cur.toList.drop ((i + 2) * 3 + news.length) := by
   rw [List.append_assoc, List.drop_left' (by rw [List.length_take, hctl]; omega)]
  have hb1 : Below base w ((w.drewN q).setCells g ((i + 2) * 3) news) := by
   rw [hr1]
   exact ⟨rfl, rfl, rfl, by simp [World.setRow, World.drewN], fun k hk => by rw [setRow_other _ _ _ _ (by omega)]; rfl⟩
  refine ⟨makeCol (fun _ _ => trivial) ⟨JI encCol_len _, .inr ⟨g, cap, _, by rw [hll], hbg, by rw [hr2]; exact setRow_heap _ g _ _ 53 _ hg1, by rw [hll]; exact hnc, hcm, ?_, ?_⟩⟩, ?_⟩
  ·
   simp only [List.size_toArray, List.toList_toArray, List.length_append, List.length_take, List.length_drop, hctl, hnl, encCol_len]
   omega
  ·
   rw [hll, List.toList_toArray, List.toList_toArray, ht1, hel, hd1, ← List.append_assoc, cellsOf_append, cellsOf_append, ← hnews]
   have hab : cellsOf encCol [a, b] = encCol a ++ encCol b := by simp [cellsOf]
   rw [hab, List.take_left']
   simp only [List.length_append, JI encCol_len, List.length_take, hnl, encCol_len]
   omega
  ·
   rw [hr2]
   exact hb1.trans ⟨rfl, rfl, rfl, by simp [World.setRow], fun k hk => setRow_other _ _ _ _ (by omega)⟩
 have HFIN := JN hfin
 have HG := JN hg
 have HT := JN htake
 have HNL := JN hnl
 have HNE := JN hnews
 have HS1 := JN hs1
 have HC1 := JN hc1
 have HW1 := JN hW1g
 have HCP1 := JN hcp1
 have HCP2 := JN hcp2
 have HW2 := JN hW1v
 have HCS := JN hcs
 clear hfin hj hn hg htake hnl hnews hs1 hc1 hW1g hcp1 hcp2 hW1v hcs hv
 go_enter Tryz.func49, Tryz.ntmps49
 go_wp2_with (simp only [hov])
 go_quiet (fail)
 go_wp2_with (simp only [hov])
 go_region_law_o (refine step_copy_runI rfl _ _ 35 35 rfl (.slice (some ⟨g, (i + 2) * 3, none⟩) (n - (i + 1)) (cap - (i + 2))) (.slice (some ⟨g, j * 3, none⟩) (n - j) (cap - j)) (Je) (Je) (HCP1.out _ _ (by exact HG.out) rfl _ _ _) ?_)
 go_wp2
 go_ret
 exact ⟨.slice (some ⟨g, 0, none⟩) (n + 1) cap, rfl, (HFIN.out _).1, (HFIN.out _).2⟩
theorem replace2GrowCol (i j n : Nat) (g cap : Nat) (cur : Array Value) (l : List S53) (base : Nat) (w : World) (hbg : base ≤ g) (hg : w.heap[g]? = some (.cells cur 53 (0, 0))) (hn : n = l.length) (hnc : n ≤ cap) (hroom : cap < n + 1) (hcs : cur.size = cap * 3)
  (htake : cur.toList.take (n * 3) = cellsOf encCol l) (hj : j = i + 1) (hi : j < n) (vb : Nat) (a b : S53) (hv : w.heap[vb]? = some (.cells (encCol a ++ encCol b).toArray 53 (0, 0))) (hlen : (n + 1) * 40 ≤ 140737488355328) (hbase : base ≤ w.heap.size) :
  Calls Tryz.prog 49 #[.slice (some ⟨g, 0, none⟩) n cap, .int .i64 (i : Int), .int .i64 (j : Int), .slice (some ⟨vb, 0, none⟩) 2 2] w fun e w' => ∃ v0_ : Value, e = .returned v0_ ∧ Kd.R k53 53 w' base (fun _ => True) v0_ (l.take i ++ [a, b] ++ l.drop j) ∧ Below base w w' := by
 obtain ⟨i0, hi0, hz0, hz1, hz2⟩ := infoCol
 have mixed : Tryz.prog.follows Departure.mixedOrders = true := by kernel_rfl
 have hsz : (Tryz.prog.info? 53).map (·.size) = some 3 := by rw [hi0]; simp [hz1]
 have hctl : cur.toList.length = cap * 3 := by rw [Array.length_toList, hcs]
 have hti : cur.toList.take (i * 3) = cellsOf encCol (l.take i) := by
  rw [← cellsOf_take encCol_len, ← htake, List.take_take, Nat.min_eq_left (by omega)]
 have hold : ∀ q, (Builtin.firstCells i0.size i (.slice (some ⟨g, 0, none⟩) i cap)).run Tryz.prog (w.drewN q).drew = .ok (cellsOf encCol (l.take i)).toArray (w.drewN q).drew := by
  intro q
  rw [hz1]
  refine run_firstCells_some (w.drewN q).drew 3 i ⟨g, 0, none⟩ i cap _ (by rw [JI encCol_len, List.length_take]; omega) (fun t u hu => ?_)
  have ht := (List.getElem?_eq_some_iff.1 hu).1
  rw [← hti, List.length_take] at ht
  rw [Addr.add_lit, cell_of_row (w.drewN q).drew g _ cur 53 (0, 0) hg, ← Array.getElem?_toList, Nat.zero_add]
  rw [← hti, List.getElem?_take_of_lt (by omega)] at hu
  exact hu
 obtain ⟨ROW, hROW⟩ : ∃ ROW : Nat → Array Value, ∀ q, ROW q = (cellsOf encCol (l.take i)).toArray ++ Builtin.zeroCells (Value.agg (encCol z53).toArray).cells (n + 1 - i) ++ Builtin.zeroCells (Value.agg (encCol z53).toArray).cells (grownCap (w.drewN q) (n + 1) cap 53 - (n + 1)) := ⟨fun q => _, fun q => rfl⟩
 have hrz : ∀ q ty, (Builtin.append_ #[35, 3] ty #[.slice (some ⟨g, 0, none⟩) i cap, .int .i64 ((n : Int) + 1 - (i : Int))]).run Tryz.prog (w.drewN q) =
   .ok (.slice (some ⟨w.heap.size, 0, none⟩) (n + 1) (grownCap (w.drewN q) (n + 1) cap 53)) ((w.drewN q).drew.alloc (.cells (ROW q) 53)) := fun q ty => by
  have h := Lib.run_append_grow_zeros (P := Tryz.prog) (w.drewN q) 35 3 ty 53 i0 _ .i64 .i64 Tryz.underlying35 Tryz.underlying3 hi0 hz0 (some ⟨g, 0, none⟩) i cap _ (hold q) (n + 1 - i) (by omega) (by omega) (by omega) (by omega) (by rw [hz2]; omega) (by rw [hz2, show i + (n + 1 - i) = n + 1 by omega]; exact growslice_fits hroom hlen)
  rw [show i + (n + 1 - i) = n + 1 by omega] at h
  rw [show (n : Int) + 1 - (i : Int) = ((n + 1 - i : Nat) : Int) by omega, hROW]
  exact h
 have hi1 : i < n := by omega
 have hij : i < j := by omega
 have heq : ¬ (i = j) := by omega
 have hjn : ¬ (j = n) := by omega
 have hjn' : j ≤ n := by omega
 have hic : i ≤ cap := by omega
 have hjc : j ≤ cap := by omega
 have hcm' : cap ≤ 9223372036854775807 := by omega
 have hw1 : IntKind.i64.wrap ((i : Int) + 2) = (i : Int) + 2 := by rw [IntKind.wrap_i64]; omega
 have hw2 : IntKind.i64.wrap ((i : Int) + 2 + ((n - j : Nat) : Int)) = ((n + 1 : Nat) : Int) := by rw [IntKind.wrap_i64]; omega
 have hw3 : IntKind.i64.wrap ((n : Int) + 1 - (i : Int)) = (n : Int) + 1 - (i : Int) := by rw [IntKind.wrap_i64]; omega
 have hb0 : (cap : Int) < (n : Int) + 1 := by omega
 have hb1 : (0 : Int) ≤ (i : Int) + 2 := by omega
 have htn : ((i : Int) + 2).toNat = i + 2 := by omega
 have hG1 : ∀ q, ¬ (grownCap (w.drewN q) (n + 1) cap 53 = i) := fun q h => by have := grownCap_ge (w.drewN q) (n + 1) cap 53; omega
 have hG2 : ∀ q, ¬ (grownCap (w.drewN q) (n + 1) cap 53 = i + 2) := fun q h => by have := grownCap_ge (w.drewN q) (n + 1) cap 53; omega
 have hG3 : ∀ q, n + 1 ≤ grownCap (w.drewN q) (n + 1) cap 53 := fun q => grownCap_ge _ _ _ _
 have hG4 : ∀ q, grownCap (w.drewN q) (n + 1) cap 53 ≤ 9223372036854775807 := fun q => by
  have := grownCap_le_maxLen (w.drewN q) (n + 1) cap 53 (by unfold maxLen; omega)
  unfold maxLen at this; omega
 have hb5 : ¬ (cap = j) := by omega
 have hb6 : ¬ (cap = i) := by omega
 have hb7 : (i : Int) ≤ (n : Int) + 1 := by omega
 have hb3 : (i : Int) + 2 ≤ (n : Int) + 1 := by omega
 have hgw : g < w.heap.size := (Array.getElem?_eq_some_iff.1 hg).1
 have hvw : vb < w.heap.size := (Array.getElem?_eq_some_iff.1 hv).1
 obtain ⟨news, hnews⟩ : ∃ news, news = cellsOf encCol (l.drop j) := ⟨_, rfl⟩
 have hnl : news.length = (n - j) * 3 := by rw [hnews, JI encCol_len, List.length_drop, hn]
 have hn1 : ∀ u ∈ news, u.oneCell' = true := by rw [hnews]; exact cellsOf_one encCol_one _
 obtain ⟨ab, hab⟩ : ∃ ab, ab = encCol a ++ encCol b := ⟨_, rfl⟩
 have habl : ab.length = 6 := by rw [hab]; rfl
 rw [← hab] at hv
 have hab1 : ∀ u ∈ ab, u.oneCell' = true := by
  intro u hu
  rw [hab] at hu
  rcases List.mem_append.1 hu with hu | hu
  ·
   exact encCol_one _ _ hu
  ·
   exact encCol_one _ _ hu
 have hzs : (Value.agg (encCol z53).toArray).cells.size = 3 := rfl
 have hrs : ∀ q, (ROW q).size = grownCap (w.drewN q) (n + 1) cap 53 * 3 := fun q => by
  have := hG3 q
  rw [hROW, Array.size_append, Array.size_append, size_zeroCells, size_zeroCells, hzs, List.size_toArray, JI encCol_len, List.length_take]
  omega
 have hcpA : ∀ q r ty dc, (Builtin.copy_ #[35, 35] ty #[.slice (some ⟨w.heap.size, i * 3, none⟩) (n + 1 - i) dc, .slice (some ⟨vb, 0, none⟩) 2 2]).run Tryz.prog ((w.drewN r).alloc (.cells (ROW q) 53)) = .ok (goInt 2) (((w.drewN r).alloc (.cells (ROW q) 53)).setCells w.heap.size (i * 3) ab) := by
  intro q r ty dc
  have hmin : Nat.min 2 (n + 1 - i) = 2 := Nat.min_eq_left (by omega)
  have hW : ((w.drewN r).alloc (.cells (ROW q) 53)).heap[w.heap.size]? = some (.cells (ROW q) 53 (0, 0)) := heap_alloc_new (w.drewN r) _
  have hWv : ((w.drewN r).alloc (.cells (ROW q) 53)).heap[vb]? = some (.cells ab.toArray 53 (0, 0)) := (heap_alloc_old (w.drewN r) _ hvw).trans hv
  have := run_copy_k (P := Tryz.prog) ((w.drewN r).alloc (.cells (ROW q) 53)) 35 35 ty 53 3 w.heap.size (i * 3) (n + 1 - i) dc ⟨vb, 0, none⟩ 2 2 ab Tryz.underlying35 hsz (by rw [hmin, habl]) (fun t u hu => by
    rw [Addr.add_lit, cell_of_row _ vb _ _ 53 (0, 0) hWv, Nat.zero_add]
    simpa using hu) (fun t ht => row_cell hW _ (by have := hG3 q; rw [hrs]; rw [habl] at ht; omega)) (fun t ht => row_frozen hW _) hab1
  rw [hmin] at this
  exact this
 have hcpB : ∀ (W : World) (c2 : Array Value) (dl : Nat), W.heap[w.heap.size]? = some (.cells c2 53 (0, 0)) → (n + 1) * 3 ≤ c2.size → W.heap[g]? = some (.cells cur 53 (0, 0)) → dl = n - (i + 1) → ∀ ty dc sc, (Builtin.copy_ #[35, 35] ty #[.slice (some ⟨w.heap.size, (i + 2) * 3, none⟩) dl dc, .slice (some ⟨g, j * 3, none⟩) (n - j) sc]).run Tryz.prog W = .ok (goInt ((n - j : Nat) : Int)) (W.setCells w.heap.size ((i + 2) * 3) news) := by
  intro W c2 dl hW hc2 hWg hdl ty dc sc
  have hmin : Nat.min (n - j) dl = n - j := by rw [hdl, hj]; exact Nat.min_self _
  have := run_copy_k (P := Tryz.prog) W 35 35 ty 53 3 w.heap.size ((i + 2) * 3) dl dc ⟨g, j * 3, none⟩ (n - j) sc news Tryz.underlying35 hsz (by rw [hmin, hnl]) (fun t u hu => by
    have ht := (List.getElem?_eq_some_iff.1 hu).1
    rw [hnl] at ht
    rw [Addr.add_lit, cell_of_row W g _ cur 53 (0, 0) hWg, ← Array.getElem?_toList]
    rw [hnews, ← cellsOf_drop encCol_len, List.getElem?_drop, ← htake, List.getElem?_take_of_lt (by omega)] at hu
    exact hu) (fun t ht => row_cell hW _ (by rw [hnl] at ht; omega)) (fun t ht => row_frozen hW _) hn1
  rw [hmin] at this
  exact this
 have hW1 : ∀ q r, ((w.drewN r).alloc (.cells (ROW q) 53)).setCells w.heap.size (i * 3) ab = ((w.drewN r).alloc (.cells (ROW q) 53)).setRow w.heap.size ((ROW q).toList.take (i * 3) ++ ab ++ (ROW q).toList.drop (i * 3 + ab.length)).toArray := fun q r =>
  row_setCells Tryz.prog (heap_alloc_new (w.drewN r) _) _ _ (by have := hG3 q; rw [hrs, habl]; omega) hab1
 have hs1 : ∀ q, ((ROW q).toList.take (i * 3) ++ ab ++ (ROW q).toList.drop (i * 3 + ab.length)).length = grownCap (w.drewN q) (n + 1) cap 53 * 3 := fun q => by
  have := hG3 q
  have := hrs q
  rw [← Array.length_toList] at this
  simp only [List.length_append, List.length_take, List.length_drop, habl]
  omega
 have hWg : ∀ q r, (((w.drewN r).alloc (.cells (ROW q) 53)).setCells w.heap.size (i * 3) ab).heap[w.heap.size]? = some (.cells ((ROW q).toList.take (i * 3) ++ ab ++ (ROW q).toList.drop (i * 3 + ab.length)).toArray 53 (0, 0)) := fun q r => by
  rw [hW1]; exact setRow_heap _ _ (ROW q) _ 53 _ (heap_alloc_new (w.drewN r) _)
 have hWo : ∀ q r k, k < w.heap.size → (((w.drewN r).alloc (.cells (ROW q) 53)).setCells w.heap.size (i * 3) ab).heap[k]? = w.heap[k]? := fun q r k hk => by
  rw [hW1, setRow_other _ _ _ _ (by omega)]; exact heap_alloc_old (w.drewN r) _ hk
 have hfin : ∀ q r, Kd.R k53 53 ((((w.drewN r).alloc (.cells (ROW q) 53)).setCells w.heap.size (i * 3) ab).drew.setCells w.heap.size ((i + 2) * 3) news) base (fun _ => True) (.slice (some ⟨w.heap.size, 0, none⟩) (n + 1) (grownCap (w.drewN q) (n + 1) cap 53)) (l.take i ++ [a, b] ++ l.drop j) ∧ Below base w ((((w.drewN r).alloc (.cells (ROW q) 53)).setCells w.heap.size (i * 3) ab).drew.setCells w.heap.size ((i + 2) * 3) news) := by
  intro q r
  have hg3 := hG3 q
  have hg1 : ((((w.drewN r).alloc (.cells (ROW q) 53)).setCells w.heap.size (i * 3) ab).drew).heap[w.heap.size]? = _ := hWg q r
  have hs := hs1 q
  have hr2 := row_setCells Tryz.prog hg1 ((i + 2) * 3) news (by rw [List.size_toArray, hs, hnl]; omega) hn1
  have hrl : (ROW q).toList.length = grownCap (w.drewN q) (n + 1) cap 53 * 3 := by rw [Array.length_toList, hrs]
  have hll : (l.take i ++ [a, b] ++ l.drop j).length = n + 1 := by simp only [List.length_append, List.length_take, List.length_drop, List.length_cons, List.length_nil]; omega
  have hlt : (l.take i).length = i := by rw [List.length_take]; omega
  have hrt : (ROW q).toList.take (i * 3) = cellsOf encCol (l.take i) := by
   rw [hROW, Array.toList_append, Array.toList_append, List.append_assoc, List.take_left']
   rw [List.toList_toArray, JI encCol_len, hlt]
  have ht1 : ((ROW q).toList.take (i * 3) ++ ab ++ (ROW q).toList.drop (i * 3 + ab.length)).take ((i + 2) * 3) = cellsOf encCol (l.take i) ++ ab := by
   rw [hrt, List.take_left']
   rw [List.length_append, JI encCol_len, hlt, habl]; omega
  refine ⟨makeCol (fun _ _ => trivial) ⟨JI encCol_len _, .inr ⟨w.heap.size, grownCap (w.drewN q) (n + 1) cap 53, _, by rw [hll], hbase, by rw [hr2]; exact setRow_heap _ _ _ _ 53 _ hg1, by rw [hll]; exact hg3, grownCap_le_maxLen _ _ _ _ (by unfold maxLen; omega), ?_, ?_⟩⟩, ?_⟩
  ·
   have hs' : ((ROW q).toList.take (i * 3) ++ ab ++ (ROW q).toList.drop (i * 3 + ab.length)).toArray.toList.length = grownCap (w.drewN q) (n + 1) cap 53 * 3 := by rw [List.toList_toArray]; exact hs
   generalize ((ROW q).toList.take (i * 3) ++ ab ++ (ROW q).toList.drop (i * 3 + ab.length)).toArray.toList = c1 at hs' ⊢
   simp only [List.size_toArray, List.length_append, List.length_take, List.length_drop, hs', hnl]
   omega
  ·
   rw [hll, List.toList_toArray, List.toList_toArray, ht1, cellsOf_append, cellsOf_append, ← hnews]
   have hab2 : cellsOf encCol [a, b] = ab := by rw [hab]; simp [cellsOf]
   rw [hab2, List.take_left']
   rw [List.length_append, List.length_append, JI encCol_len, hlt, habl, hnl]
   omega
  ·
   rw [hr2]
   exact ⟨by rw [hW1]; rfl, by rw [hW1]; rfl, by rw [hW1]; rfl, by rw [hW1]; simp [World.setRow, World.drewN, World.drew, World.alloc], fun k hk => by rw [setRow_other _ _ _ _ (by omega)]; exact hWo q r k (by omega)⟩
 have HFIN := JN hfin
 have HWG := JN hWg
 have HWO := JN hWo
 have HS1 := JN hs1
 have HGG := JN hg
 have HRZ := JN hrz
 have HCPB := JN hcpB
 clear hold hrz hj hn hg hv htake hcs hctl hti hROW hcpB hnews hrs hnl hab1 hn1 hab habl hW1 hs1 hWg hWo hfin
 go_enter Tryz.func49, Tryz.ntmps49
 go_wp2
 go_quiet (fail)
 go_wp2_with (at_builtin; refine Lib.wpList_append_run _ rfl _ _ _ _ rfl _ _ rfl rfl _ _ (HRZ.out _ _) ?_)
 go_region_law_o (refine step_copy_runI rfl _ _ 35 35 rfl (.slice (some ⟨w.heap.size, (i + 2) * 3, none⟩) (n - (i + 1)) (grownCap (w.drewN nq) (n + 1) cap 53 - (i + 2))) (.slice (some ⟨g, j * 3, none⟩) (n - j) (cap - j)) (Je) (Je) (HCPB.out _ _ _ (by exact HWG.out nq _) (by rw [List.size_toArray, HS1.out]; have := hG3 nq; omega) (by exact (HWO.out nq _ g hgw).trans HGG.out) rfl _ _ _) ?_)
 go_wp2
 go_ret
 exact ⟨_, rfl, (HFIN.out nq _).1, (HFIN.out nq _).2⟩
theorem replace2Col (x y : Int) (v : Value) (l : List S53) (base : Nat) (w : World) (ho : Kd.R k53 53 w base (fun _ => True) v l) (h0 : 0 ≤ x) (h1 : x < l.length) (hy : y = x + 1) (vb : Nat) (a b : S53) (hv : w.heap[vb]? = some (.cells (encCol a ++ encCol b).toArray 53 (0, 0))) (hne : some vb ≠ v.ownBlock) (hlen : (l.length + 1) * 40 ≤ 140737488355328) (hbase : base ≤ w.heap.size) :
  Calls Tryz.prog 49 #[v, .int .i64 x, .int .i64 y, .slice (some ⟨vb, 0, none⟩) 2 2] w fun e w' => ∃ v0_ : Value, e = .returned v0_ ∧ Kd.R k53 53 w' base (fun _ => True) v0_ (l.take x.toNat ++ [a, b] ++ l.drop (x.toNat + 1)) ∧ Below base w w' := by
 obtain ⟨hok, hown⟩ := openCol ho
 obtain ⟨g, cap, cur, rfl, hbg, hg, hnc, hcm, hcs, htake⟩ := own_open hown (by omega)
 obtain ⟨i, rfl⟩ : ∃ i : Nat, x = i := ⟨x.toNat, by omega⟩
 obtain ⟨j, rfl⟩ : ∃ j : Nat, y = j := ⟨y.toNat, by omega⟩
 have hj : j = i + 1 := by omega
 rw [Int.toNat_natCast]
 have hne' : vb ≠ g := fun e => hne (by rw [e]; rfl)
 by_cases he : j = l.length
 ·
  have := replace2EndCol i j g cap cur l base w hbg hg he (by omega) hcm hcs (by rw [he]; exact htake) (by omega) vb a b hv (by rw [he]; exact hlen) hbase
  rw [← he, List.drop_of_length_le (show l.length ≤ i + 1 by omega), List.append_nil]
  exact this
 ·
  rw [← hj]
  by_cases hr : l.length + 1 ≤ cap
  ·
   exact replace2RoomCol i j l.length g cap cur l base w hbg hg rfl hr hcm hcs htake hj (by omega) vb a b hv hne'
  ·
   exact replace2GrowCol i j l.length g cap cur l base w hbg hg rfl hnc (by omega) hcs htake hj (by omega) vb a b hv hlen hbase
def doneS (x : Step) (cols : List Col) (i j : Int) : List Col :=
 if x.f0 = 1 then cols.eraseIdx i.toNat
 else if x.f0 = 2 then cols.set i.toNat ⟨x.f2, (rdC cols i).f1, (rdC cols i).f2⟩
 else if x.f0 = 3 then cols.take i.toNat ++ [⟨x.f2, 1, ⟨#[]⟩⟩, ⟨x.f3, 1, ⟨#[]⟩⟩] ++ cols.drop (i.toNat + 1)
 else if x.f0 = 4 then (cols.set i.toNat ⟨x.f3, (rdC cols i).f1, (rdC cols i).f2⟩).eraseIdx j.toNat
 else if x.f0 = 5 then cols.set i.toNat ⟨(rdC cols i).f0, x.f5, ⟨#[]⟩⟩
 else cols.set i.toNat ⟨(rdC cols i).f0, (rdC cols i).f1, x.f2⟩
def oneS (x : Step) (cols : List Col) : List Col × Int :=
 if rightS x = false then ([], 1)
 else if x.f0 = 0 then (if 0 ≤ JC cols x.f1 0 then ([], 5) else if 12 ≤ cols.length then ([], 6) else (cols ++ [⟨x.f1, x.f6.f0, x.f2⟩], 0))
 else if JC cols x.f1 0 < 0 ∨ x.f0 = 4 ∧ JC cols x.f2 0 < 0 then ([], 12)
 else if refuseS x cols (JC cols x.f1 0) ≠ 0 then ([], refuseS x cols (JC cols x.f1 0))
 else (doneS x cols (JC cols x.f1 0) (JC cols x.f2 0), 0)
def OneR (cols' : List Col) (er : Int) (w : World) (e : Ending) (w' : World) : Prop :=
 ∃ v, e = .returned (.tuple #[v, .int .i64 er]) ∧ Kd.R k53 53 w' w.heap.size (fun _ => True) v cols' ∧ Below w.heap.size w w'
theorem oneR_nil (er : Int) {w w' : World} (h : Below w.heap.size w w') : OneR [] er w (.returned (.tuple #[.slice none 0 0, .int .i64 er])) w' := ⟨_, rfl, Kd.R_nil _ _ _ _ _, h⟩
theorem findFrom_lo0 (l : List Col) (s : ByteArray) (i : Int) : JC l s i = -1 ∨ (i ≤ JC l s i ∧ JC l s i < i + l.length) := by
 induction l generalizing i with
 | nil => exact .inl rfl
 | cons c l ih =>
  unfold JC
  split
  ·
   exact .inr ⟨by omega, by simp only [List.length_cons]; omega⟩
  ·
   rcases ih (i + 1) with h | h
   ·
    exact .inl h
   ·
    refine .inr ⟨by omega, ?_⟩
    simp only [List.length_cons]
    omega
theorem find_lt {l : List Col} {s : ByteArray} (h : 0 ≤ JC l s 0) : JC l s 0 < l.length := by
 rcases findFrom_lo0 l s 0 with h1 | h1 <;> omega
theorem one_bad (op : Int) (A B C S : ByteArray) (N k m : Int) (s : ByteArray) (A0 : Option Addr) (c0 : Nat) (cols : List Col) (w : World) (hr0 : Kd.C k53 w A0 cols.length cols) (hc0 : cols.length ≤ c0) (hn : cols.length ≤ 1000) (hR : rightS ⟨op, A, B, C, S, N, k, m, s⟩ = false) :
  Calls Tryz.prog 18 #[.agg #[.int .i64 op, .string A, .string B, .string C, .string S, .int .i64 N, .int .i64 k, .int .i64 m, .string s], .slice A0 cols.length c0] w (OneR [] 1 w) := by
 have bcell : ∀ {W w1 : World}, Below W.heap.size W w1 → (∀ b o, b < W.heap.size → w1.cell? ⟨b, o, none⟩ = W.cell? ⟨b, o, none⟩) := fun hb b o h => hb.cell (p := ⟨b, o, none⟩) h
 have HBC := JN @bcell
 clear bcell
 have HR := JN hr0
 clear hr0
 have HB0 : Jv (∀ o, Below w.heap.size w (w.alloc o)) := ⟨fun o => JD (Below.refl w.heap.size w) o⟩
 have HCL : Jv (api_Col.f cols = some cols) := ⟨Ja⟩
 have hu1 := Tryz.underlying29
 have hu2 := Tryz.underlying53
 have hu3 := Tryz.underlying27
 have HRT : Jv (∀ W, Calls Tryz.prog 11 #[.agg #[.int .i64 op, .string A, .string B, .string C, .string S, .int .i64 N, .int .i64 k, .int .i64 m, .string s]] W fun e w' => e = .returned (.bool false) ∧ Below W.heap.size W w') := ⟨fun W => by
  have := sright_calls ⟨op, A, B, C, S, N, k, m, s⟩ W
  rwa [hR] at this⟩
 clear hR
 go_enter Tryz.func18, Tryz.ntmps18
 go_wp2_with (first
  | (go_at_call 11; refine (HRT.out _).mono ?_; rintro e w1 ⟨rfl, hb⟩; have hc := HBC.out hb; have hz : w.heap.size < w1.heap.size := by { have h_ := hb.size; (try simp at h_); omega }; have HB := JN (JA (HB0.out _) (HB0.out _).size hb); clear hb))
 go_ret2
 exact oneR_nil _ HB.out
theorem one_add (op : Int) (A B C S : ByteArray) (N k m : Int) (s : ByteArray) (A0 : Option Addr) (c0 : Nat) (cols : List Col) (w : World) (hr0 : Kd.C k53 w A0 cols.length cols) (hc0 : cols.length ≤ c0) (hn : cols.length ≤ 1000) (hop : op = 0) (hR : rightS ⟨op, A, B, C, S, N, k, m, s⟩ = true) (i : Int) (hi : JC cols A 0 = i) :
  Calls Tryz.prog 18 #[.agg #[.int .i64 op, .string A, .string B, .string C, .string S, .int .i64 N, .int .i64 k, .int .i64 m, .string s], .slice A0 cols.length c0] w (OneR (if 0 ≤ i then [] else if 12 ≤ cols.length then [] else cols ++ [⟨A, k, B⟩]) (if 0 ≤ i then 5 else if 12 ≤ cols.length then 6 else 0) w) := by
 obtain rfl : op = 0 := hop
 have bcell : ∀ {W w1 : World}, Below W.heap.size W w1 → (∀ b o, b < W.heap.size → w1.cell? ⟨b, o, none⟩ = W.cell? ⟨b, o, none⟩) := fun hb b o h => hb.cell (p := ⟨b, o, none⟩) h
 have HBC := JN @bcell
 clear bcell
 have HR := JN hr0
 clear hr0
 have HB0 : Jv (∀ o, Below w.heap.size w (w.alloc o)) := ⟨fun o => JD (Below.refl w.heap.size w) o⟩
 have HCL : Jv (api_Col.f cols = some cols) := ⟨Ja⟩
 have hu1 := Tryz.underlying29
 have hu2 := Tryz.underlying53
 have hu3 := Tryz.underlying27
 have HRT : Jv (∀ W, Calls Tryz.prog 11 #[.agg #[.int .i64 0, .string A, .string B, .string C, .string S, .int .i64 N, .int .i64 k, .int .i64 m, .string s]] W fun e w' => e = .returned (.bool true) ∧ Below W.heap.size W w') := ⟨fun W => by
  have := sright_calls ⟨0, A, B, C, S, N, k, m, s⟩ W
  rwa [hR] at this⟩
 clear hR
 have HF : Jv (shape_Find.f cols A = some i) := ⟨KF⟩
 clear hi
 have HN := JN hn
 clear hn
 obtain ⟨i0, hi0, hz0, hz1, hz2⟩ := infoCol
 by_cases hi : 0 ≤ i
 ·
  rw [if_pos hi, if_pos hi]
  go_enter Tryz.func18, Tryz.ntmps18
  go_wp2_with (first
   | (go_at_call 11; refine (HRT.out _).mono ?_; rintro e w1 ⟨rfl, hb⟩; have hc := HBC.out hb; have hz : w.heap.size < w1.heap.size := by { have h_ := hb.size; (try simp at h_); omega }; have HB := JN (JA (HB0.out _) (HB0.out _).size hb); clear hb)
   | (go_at_call 45; (with_reducible refine (shape_Find.calls _ _ _ _ _ _ (Kd.C_below HR.out HB.out) hc0 HF.out).mono ?_); rintro e w1 ⟨rfl, hb⟩; have hc := HBC.out hb; have hz : w.heap.size < w1.heap.size := by { have h_ := hb.size; (try simp at h_); omega }; have HB' := JN (JA HB.out HB.out.size hb); clear HB; have HB := HB'; clear HB' hb)
   | (go_at_call 46; refine (api_Col.calls _ _ _ _ _ (Kd.C_below HR.out HB.out) hc0 HCL.out).mono ?_; rintro e w1 ⟨v0, rfl, hv, hb⟩; have hc := HBC.out hb; have hz : w.heap.size < w1.heap.size := by { have h_ := hb.size; (try simp at h_); omega }; have HV : Jv (Kd.R k53 53 w1 (w.heap.size + 1) (fun _ => True) v0 cols) := ⟨Kd.R_lower hv (by omega)⟩; clear hv; have HB' := JN (JA HB.out HB.out.size hb); clear HB; have HB := HB'; clear HB' hb))
  go_ret2
  exact oneR_nil _ HB.out
 rw [if_neg hi, if_neg hi]
 by_cases hl : 12 ≤ cols.length
 ·
  rw [if_pos hl, if_pos hl]
  have hl' : (12 : Int) ≤ cols.length := by omega
  go_enter Tryz.func18, Tryz.ntmps18
  go_wp2_with (first
   | (go_at_call 11; refine (HRT.out _).mono ?_; rintro e w1 ⟨rfl, hb⟩; have hc := HBC.out hb; have hz : w.heap.size < w1.heap.size := by { have h_ := hb.size; (try simp at h_); omega }; have HB := JN (JA (HB0.out _) (HB0.out _).size hb); clear hb)
   | (go_at_call 45; (with_reducible refine (shape_Find.calls _ _ _ _ _ _ (Kd.C_below HR.out HB.out) hc0 HF.out).mono ?_); rintro e w1 ⟨rfl, hb⟩; have hc := HBC.out hb; have hz : w.heap.size < w1.heap.size := by { have h_ := hb.size; (try simp at h_); omega }; have HB' := JN (JA HB.out HB.out.size hb); clear HB; have HB := HB'; clear HB' hb)
   | (go_at_call 46; refine (api_Col.calls _ _ _ _ _ (Kd.C_below HR.out HB.out) hc0 HCL.out).mono ?_; rintro e w1 ⟨v0, rfl, hv, hb⟩; have hc := HBC.out hb; have hz : w.heap.size < w1.heap.size := by { have h_ := hb.size; (try simp at h_); omega }; have HV : Jv (Kd.R k53 53 w1 (w.heap.size + 1) (fun _ => True) v0 cols) := ⟨Kd.R_lower hv (by omega)⟩; clear hv; have HB' := JN (JA HB.out HB.out.size hb); clear HB; have HB := HB'; clear HB' hb))
  go_ret2
  exact oneR_nil _ HB.out
 rw [if_neg hl, if_neg hl]
 have hl' : (cols.length : Int) < 12 := by omega
 go_enter Tryz.func18, Tryz.ntmps18
 go_wp2_with (first
  | (go_at_call 11; refine (HRT.out _).mono ?_; rintro e w1 ⟨rfl, hb⟩; have hc := HBC.out hb; have hz : w.heap.size < w1.heap.size := by { have h_ := hb.size; (try simp at h_); omega }; have HB := JN (JA (HB0.out _) (HB0.out _).size hb); clear hb)
  | (go_at_call 45; (with_reducible refine (shape_Find.calls _ _ _ _ _ _ (Kd.C_below HR.out HB.out) hc0 HF.out).mono ?_); rintro e w1 ⟨rfl, hb⟩; have hc := HBC.out hb; have hz : w.heap.size < w1.heap.size := by { have h_ := hb.size; (try simp at h_); omega }; have HB' := JN (JA HB.out HB.out.size hb); clear HB; have HB := HB'; clear HB' hb)
  | (go_at_call 46; refine (api_Col.calls _ _ _ _ _ (Kd.C_below HR.out HB.out) hc0 HCL.out).mono ?_; rintro e w1 ⟨v0, rfl, hv, hb⟩; have hc := HBC.out hb; have hz : w.heap.size < w1.heap.size := by { have h_ := hb.size; (try simp at h_); omega }; have HV : Jv (Kd.R k53 53 w1 (w.heap.size + 1) (fun _ => True) v0 cols) := ⟨Kd.R_lower hv (by omega)⟩; clear hv; have HB' := JN (JA HB.out HB.out.size hb); clear HB; have HB := HB'; clear HB' hb)
  | (at_builtin; refine wpList_append_own _ rfl _ _ 35 rfl (w.heap.size + 1) 53 i0 (.agg (encCol z53).toArray) 3 40 Tryz.underlying35 hi0 hz0 hz1 hz2 rfl (by omega) _ _ _ rfl ((openCol HV.out).2.alloc _) ⟨w1.heap.size, 0, none⟩ 1 1 (encCol ⟨A, k, B⟩) rfl ?qc1 ?qc2 ?qc3 ?qc4 ?qc5 ?qc6 ?_))
 case qc1 => rfl
 case qc2 =>
  intro q u hu
  rw [Addr.add_lit, cell_of_row _ w1.heap.size _ _ 53 (0, 0) (heap_alloc_new w1 _), Nat.zero_add]
  simpa using hu
 case qc3 => exact encCol_one _
 case qc4 => unfold maxLen; omega
 case qc5 => omega
 case qc6 => simp; omega
 intro v' w2 hown1 hgrow hnil
 have HO1 := JN hown1
 have HG := JN hgrow
 clear hown1 hgrow hnil
 go_wp2
 go_ret2
 refine ⟨_, rfl, ?_, ?_⟩
 ·
  refine Kd.R_lower (base := w.heap.size + 1) (makeCol (fun _ _ => trivial) ?_) (by omega)
  have := HO1.out
  rw [cellsOf_append, List.length_append]
  simpa [cellsOf] using this
 ·
  have hb := (Below.refl w.heap.size w).trans HB.out
  exact ((hb.alloc hb.size _).grown HG.out (by have := hb.size; simp; omega) (by intro q hq; have := ((openCol HV.out).2.lt q hq).1; omega))
theorem one_none (op : Int) (A B C S : ByteArray) (N k m : Int) (s : ByteArray) (A0 : Option Addr) (c0 : Nat) (cols : List Col) (w : World) (hr0 : Kd.C k53 w A0 cols.length cols) (hc0 : cols.length ≤ c0) (hn : cols.length ≤ 1000) (hR : rightS ⟨op, A, B, C, S, N, k, m, s⟩ = true) (hop : op ≠ 0) (i : Int) (hi : JC cols A 0 = i) (hi0 : i < 0) :
  Calls Tryz.prog 18 #[.agg #[.int .i64 op, .string A, .string B, .string C, .string S, .int .i64 N, .int .i64 k, .int .i64 m, .string s], .slice A0 cols.length c0] w (OneR [] 12 w) := by
 have bcell : ∀ {W w1 : World}, Below W.heap.size W w1 → (∀ b o, b < W.heap.size → w1.cell? ⟨b, o, none⟩ = W.cell? ⟨b, o, none⟩) := fun hb b o h => hb.cell (p := ⟨b, o, none⟩) h
 have HBC := JN @bcell
 clear bcell
 have HR := JN hr0
 clear hr0
 have HB0 : Jv (∀ o, Below w.heap.size w (w.alloc o)) := ⟨fun o => JD (Below.refl w.heap.size w) o⟩
 have HCL : Jv (api_Col.f cols = some cols) := ⟨Ja⟩
 have hu1 := Tryz.underlying29
 have hu2 := Tryz.underlying53
 have hu3 := Tryz.underlying27
 have HRT : Jv (∀ W, Calls Tryz.prog 11 #[.agg #[.int .i64 op, .string A, .string B, .string C, .string S, .int .i64 N, .int .i64 k, .int .i64 m, .string s]] W fun e w' => e = .returned (.bool true) ∧ Below W.heap.size W w') := ⟨fun W => by
  have := sright_calls ⟨op, A, B, C, S, N, k, m, s⟩ W
  rwa [hR] at this⟩
 clear hR
 have HF : Jv (shape_Find.f cols A = some i) := ⟨KF⟩
 clear hi
 have hop0 : (op == 0) = false := beq_eq_false_iff_ne.mpr hop
 go_enter Tryz.func18, Tryz.ntmps18
 go_wp2_with (first
  | (go_at_call 11; refine (HRT.out _).mono ?_; rintro e w1 ⟨rfl, hb⟩; have hc := HBC.out hb; have hz : w.heap.size < w1.heap.size := by { have h_ := hb.size; (try simp at h_); omega }; have HB := JN (JA (HB0.out _) (HB0.out _).size hb); clear hb)
  | (go_at_call 45; (with_reducible refine (shape_Find.calls _ _ _ _ _ _ (Kd.C_below HR.out HB.out) hc0 HF.out).mono ?_); rintro e w1 ⟨rfl, hb⟩; have hc := HBC.out hb; have hz : w.heap.size < w1.heap.size := by { have h_ := hb.size; (try simp at h_); omega }; have HB' := JN (JA HB.out HB.out.size hb); clear HB; have HB := HB'; clear HB' hb)
  | (go_at_call 46; refine (api_Col.calls _ _ _ _ _ (Kd.C_below HR.out HB.out) hc0 HCL.out).mono ?_; rintro e w1 ⟨v0, rfl, hv, hb⟩; have hc := HBC.out hb; have hz : w.heap.size < w1.heap.size := by { have h_ := hb.size; (try simp at h_); omega }; have HV : Jv (Kd.R k53 53 w1 (w.heap.size + 1) (fun _ => True) v0 cols) := ⟨Kd.R_lower hv (by omega)⟩; clear hv; have HB' := JN (JA HB.out HB.out.size hb); clear HB; have HB := HB'; clear HB' hb))
 go_ret2
 exact oneR_nil _ HB.out
theorem one_nonej (op : Int) (A B C S : ByteArray) (N k m : Int) (s : ByteArray) (A0 : Option Addr) (c0 : Nat) (cols : List Col) (w : World) (hr0 : Kd.C k53 w A0 cols.length cols) (hc0 : cols.length ≤ c0) (hn : cols.length ≤ 1000) (hop : op = 4) (hR : rightS ⟨op, A, B, C, S, N, k, m, s⟩ = true) (i : Int) (hi : JC cols A 0 = i) (hi0 : 0 ≤ i) (j : Int) (hj : JC cols B 0 = j) (hj0 : j < 0) :
  Calls Tryz.prog 18 #[.agg #[.int .i64 op, .string A, .string B, .string C, .string S, .int .i64 N, .int .i64 k, .int .i64 m, .string s], .slice A0 cols.length c0] w (OneR [] 12 w) := by
 obtain rfl : op = 4 := hop
 have bcell : ∀ {W w1 : World}, Below W.heap.size W w1 → (∀ b o, b < W.heap.size → w1.cell? ⟨b, o, none⟩ = W.cell? ⟨b, o, none⟩) := fun hb b o h => hb.cell (p := ⟨b, o, none⟩) h
 have HBC := JN @bcell
 clear bcell
 have HR := JN hr0
 clear hr0
 have HB0 : Jv (∀ o, Below w.heap.size w (w.alloc o)) := ⟨fun o => JD (Below.refl w.heap.size w) o⟩
 have HCL : Jv (api_Col.f cols = some cols) := ⟨Ja⟩
 have hu1 := Tryz.underlying29
 have hu2 := Tryz.underlying53
 have hu3 := Tryz.underlying27
 have HRT : Jv (∀ W, Calls Tryz.prog 11 #[.agg #[.int .i64 4, .string A, .string B, .string C, .string S, .int .i64 N, .int .i64 k, .int .i64 m, .string s]] W fun e w' => e = .returned (.bool true) ∧ Below W.heap.size W w') := ⟨fun W => by
  have := sright_calls ⟨4, A, B, C, S, N, k, m, s⟩ W
  rwa [hR] at this⟩
 clear hR
 have HF : Jv (shape_Find.f cols A = some i) := ⟨KF⟩
 clear hi
 have HF2 : Jv (shape_Find.f cols B = some j) := ⟨by unfold shape_Find.f; rw [hj]⟩
 clear hj
 go_enter Tryz.func18, Tryz.ntmps18
 go_wp2_with (first
  | (go_at_call 11; refine (HRT.out _).mono ?_; rintro e w1 ⟨rfl, hb⟩; have hc := HBC.out hb; have hz : w.heap.size < w1.heap.size := by { have h_ := hb.size; (try simp at h_); omega }; have HB := JN (JA (HB0.out _) (HB0.out _).size hb); clear hb)
  | (go_at_call 46; refine (api_Col.calls _ _ _ _ _ (Kd.C_below HR.out HB.out) hc0 HCL.out).mono ?_; rintro e w1 ⟨v0, rfl, hv, hb⟩; have hc := HBC.out hb; have hz : w.heap.size < w1.heap.size := by { have h_ := hb.size; (try simp at h_); omega }; have HV : Jv (Kd.R k53 53 w1 (w.heap.size + 1) (fun _ => True) v0 cols) := ⟨Kd.R_lower hv (by omega)⟩; clear hv; have HB' := JN (JA HB.out HB.out.size hb); clear HB; have HB := HB'; clear HB' hb)
  | (go_at_call 45; (with_reducible refine (shape_Find.calls _ _ _ _ _ _ (Kd.C_below HR.out HB.out) hc0 HF.out).mono ?_); rintro e w1 ⟨rfl, hb⟩; have hc := HBC.out hb; have hz : w.heap.size < w1.heap.size := by { have h_ := hb.size; (try simp at h_); omega }; have HB' := JN (JA HB.out HB.out.size hb); clear HB; have HB := HB'; clear HB' hb)
  | (go_at_call 45; (with_reducible refine (shape_Find.calls _ _ _ _ _ _ (Kd.C_below HR.out HB.out) hc0 HF2.out).mono ?_); rintro e w1 ⟨rfl, hb⟩; have hc := HBC.out hb; have hz : w.heap.size < w1.heap.size := by { have h_ := hb.size; (try simp at h_); omega }; have HB' := JN (JA HB.out HB.out.size hb); clear HB; have HB := HB'; clear HB' hb))
 go_ret2
 exact oneR_nil _ HB.out
theorem one_ref (op : Int) (A B C S : ByteArray) (N k m : Int) (s : ByteArray) (A0 : Option Addr) (c0 : Nat) (cols : List Col) (w : World) (hr0 : Kd.C k53 w A0 cols.length cols) (hc0 : cols.length ≤ c0) (hn : cols.length ≤ 1000) (hR : rightS ⟨op, A, B, C, S, N, k, m, s⟩ = true) (hop : op ≠ 0) (hop4 : op ≠ 4) (i : Int) (hi : JC cols A 0 = i) (hi0 : 0 ≤ i) (hi1 : i < cols.length) (er : Int) (hrf : refuseS ⟨op, A, B, C, S, N, k, m, s⟩ cols i = er) (her : er ≠ 0) :
  Calls Tryz.prog 18 #[.agg #[.int .i64 op, .string A, .string B, .string C, .string S, .int .i64 N, .int .i64 k, .int .i64 m, .string s], .slice A0 cols.length c0] w (OneR [] er w) := by
 have bcell : ∀ {W w1 : World}, Below W.heap.size W w1 → (∀ b o, b < W.heap.size → w1.cell? ⟨b, o, none⟩ = W.cell? ⟨b, o, none⟩) := fun hb b o h => hb.cell (p := ⟨b, o, none⟩) h
 have HBC := JN @bcell
 clear bcell
 have HR := JN hr0
 clear hr0
 have HB0 : Jv (∀ o, Below w.heap.size w (w.alloc o)) := ⟨fun o => JD (Below.refl w.heap.size w) o⟩
 have HCL : Jv (api_Col.f cols = some cols) := ⟨Ja⟩
 have hu1 := Tryz.underlying29
 have hu2 := Tryz.underlying53
 have hu3 := Tryz.underlying27
 have HRT : Jv (∀ W, Calls Tryz.prog 11 #[.agg #[.int .i64 op, .string A, .string B, .string C, .string S, .int .i64 N, .int .i64 k, .int .i64 m, .string s]] W fun e w' => e = .returned (.bool true) ∧ Below W.heap.size W w') := ⟨fun W => by
  have := sright_calls ⟨op, A, B, C, S, N, k, m, s⟩ W
  rwa [hR] at this⟩
 clear hR
 have HRF : Jv (∀ W, Kd.C k53 W A0 cols.length cols → Calls Tryz.prog 47 #[.agg #[.int .i64 op, .string A, .string B, .string C, .string S, .int .i64 N, .int .i64 k, .int .i64 m, .string s], .slice A0 cols.length c0, .int .i64 i] W fun e w' => e = .returned (.int .i64 er) ∧ Below W.heap.size W w') := ⟨fun W hW => by
  have := refuse_calls ⟨op, A, B, C, S, N, k, m, s⟩ A0 c0 cols i W hW hc0 hi0 hi1 (fun h => absurd h hop4)
  rwa [hrf] at this⟩
 clear hrf
 have HF : Jv (shape_Find.f cols A = some i) := ⟨KF⟩
 clear hi
 have hop0 : (op == 0) = false := beq_eq_false_iff_ne.mpr hop
 have hop40 : (op == 4) = false := beq_eq_false_iff_ne.mpr hop4
 have her0 : (er != 0) = true := by simpa using her
 clear her hop hop4
 go_enter Tryz.func18, Tryz.ntmps18
 go_wp2_with (first
  | (go_at_call 11; refine (HRT.out _).mono ?_; rintro e w1 ⟨rfl, hb⟩; have hc := HBC.out hb; have hz : w.heap.size < w1.heap.size := by { have h_ := hb.size; (try simp at h_); omega }; have HB := JN (JA (HB0.out _) (HB0.out _).size hb); clear hb)
  | (go_at_call 45; (with_reducible refine (shape_Find.calls _ _ _ _ _ _ (Kd.C_below HR.out HB.out) hc0 HF.out).mono ?_); rintro e w1 ⟨rfl, hb⟩; have hc := HBC.out hb; have hz : w.heap.size < w1.heap.size := by { have h_ := hb.size; (try simp at h_); omega }; have HB' := JN (JA HB.out HB.out.size hb); clear HB; have HB := HB'; clear HB' hb)
  | (go_at_call 46; refine (api_Col.calls _ _ _ _ _ (Kd.C_below HR.out HB.out) hc0 HCL.out).mono ?_; rintro e w1 ⟨v0, rfl, hv, hb⟩; have hc := HBC.out hb; have hz : w.heap.size < w1.heap.size := by { have h_ := hb.size; (try simp at h_); omega }; have HV : Jv (Kd.R k53 53 w1 (w.heap.size + 1) (fun _ => True) v0 cols) := ⟨Kd.R_lower hv (by omega)⟩; clear hv; have HB' := JN (JA HB.out HB.out.size hb); clear HB; have HB := HB'; clear HB' hb)
  | (go_at_call 47; refine (HRF.out _ (Kd.C_below HR.out HB.out)).mono ?_; rintro e w1 ⟨rfl, hb⟩; have hc := HBC.out hb; have hz : w.heap.size < w1.heap.size := by { have h_ := hb.size; (try simp at h_); omega }; have HV' := JN (Kd.R_below HV.out hb); clear HV; have HV := HV'; clear HV'; have HB' := JN (JA HB.out HB.out.size hb); clear HB; have HB := HB'; clear HB' hb))
 go_ret2
 exact oneR_nil _ HB.out
theorem one_refj (op : Int) (A B C S : ByteArray) (N k m : Int) (s : ByteArray) (A0 : Option Addr) (c0 : Nat) (cols : List Col) (w : World) (hr0 : Kd.C k53 w A0 cols.length cols) (hc0 : cols.length ≤ c0) (hn : cols.length ≤ 1000) (hop : op = 4) (hR : rightS ⟨op, A, B, C, S, N, k, m, s⟩ = true) (i : Int) (hi : JC cols A 0 = i) (hi0 : 0 ≤ i) (hi1 : i < cols.length) (j : Int) (hj : JC cols B 0 = j) (hj0 : 0 ≤ j) (hj1 : j < cols.length) (er : Int) (hrf : refuseS ⟨op, A, B, C, S, N, k, m, s⟩ cols i = er) (her : er ≠ 0) :
  Calls Tryz.prog 18 #[.agg #[.int .i64 op, .string A, .string B, .string C, .string S, .int .i64 N, .int .i64 k, .int .i64 m, .string s], .slice A0 cols.length c0] w (OneR [] er w) := by
 obtain rfl : op = 4 := hop
 have bcell : ∀ {W w1 : World}, Below W.heap.size W w1 → (∀ b o, b < W.heap.size → w1.cell? ⟨b, o, none⟩ = W.cell? ⟨b, o, none⟩) := fun hb b o h => hb.cell (p := ⟨b, o, none⟩) h
 have HBC := JN @bcell
 clear bcell
 have HR := JN hr0
 clear hr0
 have HB0 : Jv (∀ o, Below w.heap.size w (w.alloc o)) := ⟨fun o => JD (Below.refl w.heap.size w) o⟩
 have HCL : Jv (api_Col.f cols = some cols) := ⟨Ja⟩
 have hu1 := Tryz.underlying29
 have hu2 := Tryz.underlying53
 have hu3 := Tryz.underlying27
 have HRT : Jv (∀ W, Calls Tryz.prog 11 #[.agg #[.int .i64 4, .string A, .string B, .string C, .string S, .int .i64 N, .int .i64 k, .int .i64 m, .string s]] W fun e w' => e = .returned (.bool true) ∧ Below W.heap.size W w') := ⟨fun W => by
  have := sright_calls ⟨4, A, B, C, S, N, k, m, s⟩ W
  rwa [hR] at this⟩
 clear hR
 subst hj
 have HRF : Jv (∀ W, Kd.C k53 W A0 cols.length cols → Calls Tryz.prog 47 #[.agg #[.int .i64 4, .string A, .string B, .string C, .string S, .int .i64 N, .int .i64 k, .int .i64 m, .string s], .slice A0 cols.length c0, .int .i64 i] W fun e w' => e = .returned (.int .i64 er) ∧ Below W.heap.size W w') := ⟨fun W hW => by
  have := refuse_calls ⟨4, A, B, C, S, N, k, m, s⟩ A0 c0 cols i W hW hc0 hi0 hi1 (fun _ => ⟨hj0, hj1⟩)
  rwa [hrf] at this⟩
 clear hrf
 obtain ⟨j, hj⟩ : ∃ j, JC cols B 0 = j := ⟨_, rfl⟩
 rw [hj] at hj0 hj1
 have HF : Jv (shape_Find.f cols A = some i) := ⟨KF⟩
 clear hi
 have HF2 : Jv (shape_Find.f cols B = some j) := ⟨by unfold shape_Find.f; rw [hj]⟩
 clear hj
 have her0 : (er != 0) = true := by simpa using her
 clear her
 go_enter Tryz.func18, Tryz.ntmps18
 go_wp2_with (first
  | (go_at_call 11; refine (HRT.out _).mono ?_; rintro e w1 ⟨rfl, hb⟩; have hc := HBC.out hb; have hz : w.heap.size < w1.heap.size := by { have h_ := hb.size; (try simp at h_); omega }; have HB := JN (JA (HB0.out _) (HB0.out _).size hb); clear hb)
  | (go_at_call 46; refine (api_Col.calls _ _ _ _ _ (Kd.C_below HR.out HB.out) hc0 HCL.out).mono ?_; rintro e w1 ⟨v0, rfl, hv, hb⟩; have hc := HBC.out hb; have hz : w.heap.size < w1.heap.size := by { have h_ := hb.size; (try simp at h_); omega }; have HV : Jv (Kd.R k53 53 w1 (w.heap.size + 1) (fun _ => True) v0 cols) := ⟨Kd.R_lower hv (by omega)⟩; clear hv; have HB' := JN (JA HB.out HB.out.size hb); clear HB; have HB := HB'; clear HB' hb)
  | (go_at_call 45; (with_reducible refine (shape_Find.calls _ _ _ _ _ _ (Kd.C_below HR.out HB.out) hc0 HF.out).mono ?_); rintro e w1 ⟨rfl, hb⟩; have hc := HBC.out hb; have hz : w.heap.size < w1.heap.size := by { have h_ := hb.size; (try simp at h_); omega }; have HB' := JN (JA HB.out HB.out.size hb); clear HB; have HB := HB'; clear HB' hb)
  | (go_at_call 45; (with_reducible refine (shape_Find.calls _ _ _ _ _ _ (Kd.C_below HR.out HB.out) hc0 HF2.out).mono ?_); rintro e w1 ⟨rfl, hb⟩; have hc := HBC.out hb; have hz : w.heap.size < w1.heap.size := by { have h_ := hb.size; (try simp at h_); omega }; have HV' := JN (Kd.R_below HV.out hb); clear HV; have HV := HV'; clear HV'; have HB' := JN (JA HB.out HB.out.size hb); clear HB; have HB := HB'; clear HB' hb)
  | (go_at_call 47; refine (HRF.out _ (Kd.C_below HR.out HB.out)).mono ?_; rintro e w1 ⟨rfl, hb⟩; have hc := HBC.out hb; have hz : w.heap.size < w1.heap.size := by { have h_ := hb.size; (try simp at h_); omega }; have HV' := JN (Kd.R_below HV.out hb); clear HV; have HV := HV'; clear HV'; have HB' := JN (JA HB.out HB.out.size hb); clear HB; have HB := HB'; clear HB' hb))
 go_ret2
 exact oneR_nil _ HB.out
theorem split_col (i j : Int) (v : Value) (cols : List Col) (base : Nat) (W : World) (hv : Kd.R k53 53 W base (fun _ => True) v cols) (h0 : 0 ≤ i) (h1 : i < cols.length) (hj : j = i + 1) (B C : ByteArray) (b : Nat) (hb : b = W.heap.size) (hn : (cols.length + 1) * 40 ≤ 140737488355328) (hbase : base ≤ W.heap.size) :
  Calls Tryz.prog 49 #[v, .int .i64 i, .int .i64 j, .slice (some ⟨b, 0, none⟩) 2 2] (W.alloc (.cells #[.string B, .int .i64 1, .string ⟨#[]⟩, .string C, .int .i64 1, .string ⟨#[]⟩] 53)) fun e w' => ∃ v1 : Value, e = .returned v1 ∧ Kd.R k53 53 w' base (fun _ => True) v1 (cols.take i.toNat ++ [⟨B, 1, ⟨#[]⟩⟩, ⟨C, 1, ⟨#[]⟩⟩] ++ cols.drop (i.toNat + 1)) ∧ Below base W w' := by
 subst hb
 have hlt : ∀ g, v.ownBlock = some g → g < W.heap.size := fun g h => ((openCol hv).2.lt g h).2
 refine (replace2Col i j v cols base (W.alloc (.cells #[.string B, .int .i64 1, .string ⟨#[]⟩, .string C, .int .i64 1, .string ⟨#[]⟩] 53)) (Kd.R_below hv (JD (Below.refl _ _) _)) h0 h1 hj W.heap.size ⟨B, 1, ⟨#[]⟩⟩ ⟨C, 1, ⟨#[]⟩⟩ (heap_alloc_new W _) (fun h => Nat.lt_irrefl _ (hlt _ h.symm)) hn (Jc)).mono ?_
 rintro e w' ⟨v1, he, hr, hb⟩
 exact ⟨v1, he, hr, ((Below.refl base W).alloc hbase _).trans hb⟩
theorem one_drop (op : Int) (A B C S : ByteArray) (N k m : Int) (s : ByteArray) (A0 : Option Addr) (c0 : Nat) (cols : List Col) (w : World) (hr0 : Kd.C k53 w A0 cols.length cols) (hc0 : cols.length ≤ c0) (hn : cols.length ≤ 1000) (hop : op = 1) (hR : rightS ⟨op, A, B, C, S, N, k, m, s⟩ = true) (i : Int) (hi : JC cols A 0 = i) (hi0 : 0 ≤ i) (hi1 : i < cols.length) (hrf : refuseS ⟨op, A, B, C, S, N, k, m, s⟩ cols i = 0) :
  Calls Tryz.prog 18 #[.agg #[.int .i64 op, .string A, .string B, .string C, .string S, .int .i64 N, .int .i64 k, .int .i64 m, .string s], .slice A0 cols.length c0] w (OneR (cols.eraseIdx i.toNat) 0 w) := by
 obtain rfl : op = 1 := hop
 have bcell : ∀ {W w1 : World}, Below W.heap.size W w1 → (∀ b o, b < W.heap.size → w1.cell? ⟨b, o, none⟩ = W.cell? ⟨b, o, none⟩) := fun hb b o h => hb.cell (p := ⟨b, o, none⟩) h
 have HBC := JN @bcell
 clear bcell
 have HR := JN hr0
 clear hr0
 have HB0 : Jv (∀ o, Below w.heap.size w (w.alloc o)) := ⟨fun o => JD (Below.refl w.heap.size w) o⟩
 have HCL : Jv (api_Col.f cols = some cols) := ⟨Ja⟩
 have hu1 := Tryz.underlying29
 have hu2 := Tryz.underlying53
 have hu3 := Tryz.underlying27
 have HRT : Jv (∀ W, Calls Tryz.prog 11 #[.agg #[.int .i64 1, .string A, .string B, .string C, .string S, .int .i64 N, .int .i64 k, .int .i64 m, .string s]] W fun e w' => e = .returned (.bool true) ∧ Below W.heap.size W w') := ⟨fun W => by
  have := sright_calls ⟨1, A, B, C, S, N, k, m, s⟩ W
  rwa [hR] at this⟩
 clear hR
 have HRF : Jv (∀ W, Kd.C k53 W A0 cols.length cols → Calls Tryz.prog 47 #[.agg #[.int .i64 1, .string A, .string B, .string C, .string S, .int .i64 N, .int .i64 k, .int .i64 m, .string s], .slice A0 cols.length c0, .int .i64 i] W fun e w' => e = .returned (.int .i64 0) ∧ Below W.heap.size W w') := ⟨fun W hW => by
  have := refuse_calls ⟨1, A, B, C, S, N, k, m, s⟩ A0 c0 cols i W hW hc0 hi0 hi1 (fun h => absurd h (show ¬ (1 : Int) = 4 by decide))
  rwa [hrf] at this⟩
 clear hrf
 have HF : Jv (shape_Find.f cols A = some i) := ⟨KF⟩
 clear hi
 go_enter Tryz.func18, Tryz.ntmps18
 go_wp2_with (first
  | (go_at_call 11; refine (HRT.out _).mono ?_; rintro e w1 ⟨rfl, hb⟩; have hc := HBC.out hb; have hz : w.heap.size < w1.heap.size := by { have h_ := hb.size; (try simp at h_); omega }; have HB := JN (JA (HB0.out _) (HB0.out _).size hb); clear hb)
  | (go_at_call 45; (with_reducible refine (shape_Find.calls _ _ _ _ _ _ (Kd.C_below HR.out HB.out) hc0 HF.out).mono ?_); rintro e w1 ⟨rfl, hb⟩; have hc := HBC.out hb; have hz : w.heap.size < w1.heap.size := by { have h_ := hb.size; (try simp at h_); omega }; have HB' := JN (JA HB.out HB.out.size hb); clear HB; have HB := HB'; clear HB' hb)
  | (go_at_call 46; refine (api_Col.calls _ _ _ _ _ (Kd.C_below HR.out HB.out) hc0 HCL.out).mono ?_; rintro e w1 ⟨v0, rfl, hv, hb⟩; have hc := HBC.out hb; have hz : w.heap.size < w1.heap.size := by { have h_ := hb.size; (try simp at h_); omega }; have HV : Jv (Kd.R k53 53 w1 (w.heap.size + 1) (fun _ => True) v0 cols) := ⟨Kd.R_lower hv (by omega)⟩; clear hv; have HB' := JN (JA HB.out HB.out.size hb); clear HB; have HB := HB'; clear HB' hb)
  | (go_at_call 47; refine (HRF.out _ (Kd.C_below HR.out HB.out)).mono ?_; rintro e w1 ⟨rfl, hb⟩; have hc := HBC.out hb; have hz : w.heap.size < w1.heap.size := by { have h_ := hb.size; (try simp at h_); omega }; have HV' := JN (Kd.R_below HV.out hb); clear HV; have HV := HV'; clear HV'; have HB' := JN (JA HB.out HB.out.size hb); clear HB; have HB := HB'; clear HB' hb)
  | (go_at_call 48; refine (deleteCol _ _ _ _ _ _ _ HV.out hi0 hi1 (by omega)).mono ?_; rintro e w1 ⟨v1, rfl, hvo, hv, hb⟩; have HV' := JN hv; clear HV hv hvo; have HV := HV'; clear HV'; have HB' := JN (HB.out.trans (hb.mono (show w.heap.size ≤ w.heap.size + 1 by omega))); clear HB hb; have HB := HB'; clear HB'))
 go_ret2
 exact ⟨_, rfl, Kd.R_lower HV.out (by omega), HB.out⟩
theorem one_rename (op : Int) (A B C S : ByteArray) (N k m : Int) (s : ByteArray) (A0 : Option Addr) (c0 : Nat) (cols : List Col) (w : World) (hr0 : Kd.C k53 w A0 cols.length cols) (hc0 : cols.length ≤ c0) (hn : cols.length ≤ 1000) (hop : op = 2) (hR : rightS ⟨op, A, B, C, S, N, k, m, s⟩ = true) (i : Int) (hi : JC cols A 0 = i) (hi0 : 0 ≤ i) (hi1 : i < cols.length) (hrf : refuseS ⟨op, A, B, C, S, N, k, m, s⟩ cols i = 0) :
  Calls Tryz.prog 18 #[.agg #[.int .i64 op, .string A, .string B, .string C, .string S, .int .i64 N, .int .i64 k, .int .i64 m, .string s], .slice A0 cols.length c0] w (OneR (cols.set i.toNat ⟨B, (rdC cols i).f1, (rdC cols i).f2⟩) 0 w) := by
 obtain rfl : op = 2 := hop
 have bcell : ∀ {W w1 : World}, Below W.heap.size W w1 → (∀ b o, b < W.heap.size → w1.cell? ⟨b, o, none⟩ = W.cell? ⟨b, o, none⟩) := fun hb b o h => hb.cell (p := ⟨b, o, none⟩) h
 have HBC := JN @bcell
 clear bcell
 have HR := JN hr0
 clear hr0
 have HB0 : Jv (∀ o, Below w.heap.size w (w.alloc o)) := ⟨fun o => JD (Below.refl w.heap.size w) o⟩
 have HCL : Jv (api_Col.f cols = some cols) := ⟨Ja⟩
 have hu1 := Tryz.underlying29
 have hu2 := Tryz.underlying53
 have hu3 := Tryz.underlying27
 have HRT : Jv (∀ W, Calls Tryz.prog 11 #[.agg #[.int .i64 2, .string A, .string B, .string C, .string S, .int .i64 N, .int .i64 k, .int .i64 m, .string s]] W fun e w' => e = .returned (.bool true) ∧ Below W.heap.size W w') := ⟨fun W => by
  have := sright_calls ⟨2, A, B, C, S, N, k, m, s⟩ W
  rwa [hR] at this⟩
 clear hR
 have HRF : Jv (∀ W, Kd.C k53 W A0 cols.length cols → Calls Tryz.prog 47 #[.agg #[.int .i64 2, .string A, .string B, .string C, .string S, .int .i64 N, .int .i64 k, .int .i64 m, .string s], .slice A0 cols.length c0, .int .i64 i] W fun e w' => e = .returned (.int .i64 0) ∧ Below W.heap.size W w') := ⟨fun W hW => by
  have := refuse_calls ⟨2, A, B, C, S, N, k, m, s⟩ A0 c0 cols i W hW hc0 hi0 hi1 (fun h => absurd h (show ¬ (2 : Int) = 4 by decide))
  rwa [hrf] at this⟩
 clear hrf
 have HF : Jv (shape_Find.f cols A = some i) := ⟨KF⟩
 clear hi
 go_enter Tryz.func18, Tryz.ntmps18
 go_wp2_with (first
  | (go_at_call 11; refine (HRT.out _).mono ?_; rintro e w1 ⟨rfl, hb⟩; have hc := HBC.out hb; have hz : w.heap.size < w1.heap.size := by { have h_ := hb.size; (try simp at h_); omega }; have HB := JN (JA (HB0.out _) (HB0.out _).size hb); clear hb)
  | (go_at_call 45; (with_reducible refine (shape_Find.calls _ _ _ _ _ _ (Kd.C_below HR.out HB.out) hc0 HF.out).mono ?_); rintro e w1 ⟨rfl, hb⟩; have hc := HBC.out hb; have hz : w.heap.size < w1.heap.size := by { have h_ := hb.size; (try simp at h_); omega }; have HB' := JN (JA HB.out HB.out.size hb); clear HB; have HB := HB'; clear HB' hb)
  | (go_at_call 46; refine (api_Col.calls _ _ _ _ _ (Kd.C_below HR.out HB.out) hc0 HCL.out).mono ?_; rintro e w1 ⟨v0, rfl, hv, hb⟩; have hc := HBC.out hb; have hz : w.heap.size < w1.heap.size := by { have h_ := hb.size; (try simp at h_); omega }; have HV : Jv (Kd.R k53 53 w1 (w.heap.size + 1) (fun _ => True) v0 cols) := ⟨Kd.R_lower hv (by omega)⟩; clear hv; have HB' := JN (JA HB.out HB.out.size hb); clear HB; have HB := HB'; clear HB' hb)
  | (go_at_call 47; refine (HRF.out _ (Kd.C_below HR.out HB.out)).mono ?_; rintro e w1 ⟨rfl, hb⟩; have hc := HBC.out hb; have hz : w.heap.size < w1.heap.size := by { have h_ := hb.size; (try simp at h_); omega }; have HV' := JN (Kd.R_below HV.out hb); clear HV; have HV := HV'; clear HV'; have HB' := JN (JA HB.out HB.out.size hb); clear HB; have HB := HB'; clear HB' hb; obtain ⟨g, cap, rfl, hg0, hg1, hg2⟩ := ownCol HV.out (by omega); have hq0 := getCol HV.out rfl i hi0 hi1 0 (by omega); have hr0 : w1.cell? ⟨g, i.toNat * 3, none⟩ = some (.string (rdC cols i).f0) := hq0.1; have hs0 : w1.frozen? ⟨g, i.toNat * 3, none⟩ = false := hq0.2; clear hq0; have hgn : ¬ w.heap.size = g := (by omega); have hgm : ¬ g = w.heap.size := (by omega)))
 go_ret2
 exact ⟨_, rfl, Kd.R_lower (putCol HV.out rfl i hi0 hi1 0 (by omega) _ ⟨B, (rdC cols i).f1, (rdC cols i).f2⟩ rfl) (by omega), HB.out.setCell (p := ⟨g, _, none⟩) (show w.heap.size ≤ g by omega) _⟩
theorem one_split (op : Int) (A B C S : ByteArray) (N k m : Int) (s : ByteArray) (A0 : Option Addr) (c0 : Nat) (cols : List Col) (w : World) (hr0 : Kd.C k53 w A0 cols.length cols) (hc0 : cols.length ≤ c0) (hn : cols.length ≤ 1000) (hop : op = 3) (hR : rightS ⟨op, A, B, C, S, N, k, m, s⟩ = true) (i : Int) (hi : JC cols A 0 = i) (hi0 : 0 ≤ i) (hi1 : i < cols.length) (hrf : refuseS ⟨op, A, B, C, S, N, k, m, s⟩ cols i = 0) :
  Calls Tryz.prog 18 #[.agg #[.int .i64 op, .string A, .string B, .string C, .string S, .int .i64 N, .int .i64 k, .int .i64 m, .string s], .slice A0 cols.length c0] w (OneR (cols.take i.toNat ++ [⟨B, 1, ⟨#[]⟩⟩, ⟨C, 1, ⟨#[]⟩⟩] ++ cols.drop (i.toNat + 1)) 0 w) := by
 obtain rfl : op = 3 := hop
 have bcell : ∀ {W w1 : World}, Below W.heap.size W w1 → (∀ b o, b < W.heap.size → w1.cell? ⟨b, o, none⟩ = W.cell? ⟨b, o, none⟩) := fun hb b o h => hb.cell (p := ⟨b, o, none⟩) h
 have HBC := JN @bcell
 clear bcell
 have HR := JN hr0
 clear hr0
 have HB0 : Jv (∀ o, Below w.heap.size w (w.alloc o)) := ⟨fun o => JD (Below.refl w.heap.size w) o⟩
 have HCL : Jv (api_Col.f cols = some cols) := ⟨Ja⟩
 have hu1 := Tryz.underlying29
 have hu2 := Tryz.underlying53
 have hu3 := Tryz.underlying27
 have HRT : Jv (∀ W, Calls Tryz.prog 11 #[.agg #[.int .i64 3, .string A, .string B, .string C, .string S, .int .i64 N, .int .i64 k, .int .i64 m, .string s]] W fun e w' => e = .returned (.bool true) ∧ Below W.heap.size W w') := ⟨fun W => by
  have := sright_calls ⟨3, A, B, C, S, N, k, m, s⟩ W
  rwa [hR] at this⟩
 clear hR
 have HRF : Jv (∀ W, Kd.C k53 W A0 cols.length cols → Calls Tryz.prog 47 #[.agg #[.int .i64 3, .string A, .string B, .string C, .string S, .int .i64 N, .int .i64 k, .int .i64 m, .string s], .slice A0 cols.length c0, .int .i64 i] W fun e w' => e = .returned (.int .i64 0) ∧ Below W.heap.size W w') := ⟨fun W hW => by
  have := refuse_calls ⟨3, A, B, C, S, N, k, m, s⟩ A0 c0 cols i W hW hc0 hi0 hi1 (fun h => absurd h (show ¬ (3 : Int) = 4 by decide))
  rwa [hrf] at this⟩
 clear hrf
 have HF : Jv (shape_Find.f cols A = some i) := ⟨KF⟩
 clear hi
 go_enter Tryz.func18, Tryz.ntmps18
 go_wp2_with (first
  | (go_at_call 11; refine (HRT.out _).mono ?_; rintro e w1 ⟨rfl, hb⟩; have hc := HBC.out hb; have hz : w.heap.size < w1.heap.size := by { have h_ := hb.size; (try simp at h_); omega }; have HB := JN (JA (HB0.out _) (HB0.out _).size hb); clear hb)
  | (go_at_call 45; (with_reducible refine (shape_Find.calls _ _ _ _ _ _ (Kd.C_below HR.out HB.out) hc0 HF.out).mono ?_); rintro e w1 ⟨rfl, hb⟩; have hc := HBC.out hb; have hz : w.heap.size < w1.heap.size := by { have h_ := hb.size; (try simp at h_); omega }; have HB' := JN (JA HB.out HB.out.size hb); clear HB; have HB := HB'; clear HB' hb)
  | (go_at_call 46; refine (api_Col.calls _ _ _ _ _ (Kd.C_below HR.out HB.out) hc0 HCL.out).mono ?_; rintro e w1 ⟨v0, rfl, hv, hb⟩; have hc := HBC.out hb; have hz : w.heap.size < w1.heap.size := by { have h_ := hb.size; (try simp at h_); omega }; have HV : Jv (Kd.R k53 53 w1 (w.heap.size + 1) (fun _ => True) v0 cols) := ⟨Kd.R_lower hv (by omega)⟩; clear hv; have HB' := JN (JA HB.out HB.out.size hb); clear HB; have HB := HB'; clear HB' hb)
  | (go_at_call 47; refine (HRF.out _ (Kd.C_below HR.out HB.out)).mono ?_; rintro e w1 ⟨rfl, hb⟩; have hc := HBC.out hb; have hz : w.heap.size < w1.heap.size := by { have h_ := hb.size; (try simp at h_); omega }; have HV' := JN (Kd.R_below HV.out hb); clear HV; have HV := HV'; clear HV'; have HB' := JN (JA HB.out HB.out.size hb); clear HB; have HB := HB'; clear HB' hb)
  | (go_at_call 49; refine (split_col _ _ _ _ _ _ HV.out hi0 hi1 (by omega) _ _ _ (by simp) (by omega) (by omega)).mono ?_; rintro e w2 ⟨v1, rfl, hv, hb⟩; have HV' := JN hv; clear HV hv; have HV := HV'; clear HV'; have HB' := JN (HB.out.trans (hb.mono (show w.heap.size ≤ w.heap.size + 1 by omega))); clear HB hb; have HB := HB'; clear HB'))
 go_ret2
 exact ⟨_, rfl, Kd.R_lower HV.out (by omega), HB.out⟩
theorem one_join (op : Int) (A B C S : ByteArray) (N k m : Int) (s : ByteArray) (A0 : Option Addr) (c0 : Nat) (cols : List Col) (w : World) (hr0 : Kd.C k53 w A0 cols.length cols) (hc0 : cols.length ≤ c0) (hn : cols.length ≤ 1000) (hop : op = 4) (hR : rightS ⟨op, A, B, C, S, N, k, m, s⟩ = true) (i : Int) (hi : JC cols A 0 = i) (hi0 : 0 ≤ i) (hi1 : i < cols.length) (j : Int) (hj : JC cols B 0 = j) (hj0 : 0 ≤ j) (hj1 : j < cols.length) (hrf : refuseS ⟨op, A, B, C, S, N, k, m, s⟩ cols i = 0) :
  Calls Tryz.prog 18 #[.agg #[.int .i64 op, .string A, .string B, .string C, .string S, .int .i64 N, .int .i64 k, .int .i64 m, .string s], .slice A0 cols.length c0] w (OneR ((cols.set i.toNat ⟨C, (rdC cols i).f1, (rdC cols i).f2⟩).eraseIdx j.toNat) 0 w) := by
 obtain rfl : op = 4 := hop
 have bcell : ∀ {W w1 : World}, Below W.heap.size W w1 → (∀ b o, b < W.heap.size → w1.cell? ⟨b, o, none⟩ = W.cell? ⟨b, o, none⟩) := fun hb b o h => hb.cell (p := ⟨b, o, none⟩) h
 have HBC := JN @bcell
 clear bcell
 have HR := JN hr0
 clear hr0
 have HB0 : Jv (∀ o, Below w.heap.size w (w.alloc o)) := ⟨fun o => JD (Below.refl w.heap.size w) o⟩
 have HCL : Jv (api_Col.f cols = some cols) := ⟨Ja⟩
 have hu1 := Tryz.underlying29
 have hu2 := Tryz.underlying53
 have hu3 := Tryz.underlying27
 have HRT : Jv (∀ W, Calls Tryz.prog 11 #[.agg #[.int .i64 4, .string A, .string B, .string C, .string S, .int .i64 N, .int .i64 k, .int .i64 m, .string s]] W fun e w' => e = .returned (.bool true) ∧ Below W.heap.size W w') := ⟨fun W => by
  have := sright_calls ⟨4, A, B, C, S, N, k, m, s⟩ W
  rwa [hR] at this⟩
 clear hR
 subst hj
 have HRF : Jv (∀ W, Kd.C k53 W A0 cols.length cols → Calls Tryz.prog 47 #[.agg #[.int .i64 4, .string A, .string B, .string C, .string S, .int .i64 N, .int .i64 k, .int .i64 m, .string s], .slice A0 cols.length c0, .int .i64 i] W fun e w' => e = .returned (.int .i64 0) ∧ Below W.heap.size W w') := ⟨fun W hW => by
  have := refuse_calls ⟨4, A, B, C, S, N, k, m, s⟩ A0 c0 cols i W hW hc0 hi0 hi1 (fun _ => ⟨hj0, hj1⟩)
  rwa [hrf] at this⟩
 clear hrf
 obtain ⟨j, hj⟩ : ∃ j, JC cols B 0 = j := ⟨_, rfl⟩
 rw [hj] at hj0 hj1 ⊢
 have HF : Jv (shape_Find.f cols A = some i) := ⟨KF⟩
 clear hi
 have HF2 : Jv (shape_Find.f cols B = some j) := ⟨by unfold shape_Find.f; rw [hj]⟩
 clear hj
 go_enter Tryz.func18, Tryz.ntmps18
 go_wp2_with (first
  | (go_at_call 11; refine (HRT.out _).mono ?_; rintro e w1 ⟨rfl, hb⟩; have hc := HBC.out hb; have hz : w.heap.size < w1.heap.size := by { have h_ := hb.size; (try simp at h_); omega }; have HB := JN (JA (HB0.out _) (HB0.out _).size hb); clear hb)
  | (go_at_call 46; refine (api_Col.calls _ _ _ _ _ (Kd.C_below HR.out HB.out) hc0 HCL.out).mono ?_; rintro e w1 ⟨v0, rfl, hv, hb⟩; have hc := HBC.out hb; have hz : w.heap.size < w1.heap.size := by { have h_ := hb.size; (try simp at h_); omega }; have HV : Jv (Kd.R k53 53 w1 (w.heap.size + 1) (fun _ => True) v0 cols) := ⟨Kd.R_lower hv (by omega)⟩; clear hv; have HB' := JN (JA HB.out HB.out.size hb); clear HB; have HB := HB'; clear HB' hb)
  | (go_at_call 45; (with_reducible refine (shape_Find.calls _ _ _ _ _ _ (Kd.C_below HR.out HB.out) hc0 HF.out).mono ?_); rintro e w1 ⟨rfl, hb⟩; have hc := HBC.out hb; have hz : w.heap.size < w1.heap.size := by { have h_ := hb.size; (try simp at h_); omega }; have HB' := JN (JA HB.out HB.out.size hb); clear HB; have HB := HB'; clear HB' hb)
  | (go_at_call 45; (with_reducible refine (shape_Find.calls _ _ _ _ _ _ (Kd.C_below HR.out HB.out) hc0 HF2.out).mono ?_); rintro e w1 ⟨rfl, hb⟩; have hc := HBC.out hb; have hz : w.heap.size < w1.heap.size := by { have h_ := hb.size; (try simp at h_); omega }; have HV' := JN (Kd.R_below HV.out hb); clear HV; have HV := HV'; clear HV'; have HB' := JN (JA HB.out HB.out.size hb); clear HB; have HB := HB'; clear HB' hb)
  | (go_at_call 47; refine (HRF.out _ (Kd.C_below HR.out HB.out)).mono ?_; rintro e w1 ⟨rfl, hb⟩; have hc := HBC.out hb; have hz : w.heap.size < w1.heap.size := by { have h_ := hb.size; (try simp at h_); omega }; have HV' := JN (Kd.R_below HV.out hb); clear HV; have HV := HV'; clear HV'; have HB' := JN (JA HB.out HB.out.size hb); clear HB; have HB := HB'; clear HB' hb; obtain ⟨g, cap, rfl, hg0, hg1, hg2⟩ := ownCol HV.out (by omega); have hq0 := getCol HV.out rfl i hi0 hi1 0 (by omega); have hr0 : w1.cell? ⟨g, i.toNat * 3, none⟩ = some (.string (rdC cols i).f0) := hq0.1; have hs0 : w1.frozen? ⟨g, i.toNat * 3, none⟩ = false := hq0.2; clear hq0; have hgn : ¬ w.heap.size = g := (by omega); have hgm : ¬ g = w.heap.size := (by omega); have HBS : Jv (Below w.heap.size w (w1.setCell ⟨g, i.toNat * 3, none⟩ (.string C))) := ⟨HB.out.setCell (p := ⟨g, _, none⟩) (show w.heap.size ≤ g by omega) _⟩; have HVS := JN (putCol HV.out rfl i hi0 hi1 0 (by omega) (.string C) ⟨C, (rdC cols i).f1, (rdC cols i).f2⟩ rfl))
  | (go_at_call 45; (with_reducible refine (shape_Find.calls _ _ _ _ _ _ (Kd.C_below HR.out HBS.out) hc0 HF2.out).mono ?_); rintro e w2 ⟨rfl, hb⟩; have HV2 := JN (Kd.R_below HVS.out hb); have HB2 := JN (JA HBS.out HBS.out.size hb); clear hb)
  | (go_at_call 48; refine (deleteCol j (j + 1) _ _ _ _ _ HV2.out hj0 (Jg) rfl).mono ?_; rintro e w3 ⟨v1, rfl, hvo, hv, hb⟩; have HV3 := JN hv; clear hv hvo; have HB3 := JN (HB2.out.trans (hb.mono (show w.heap.size ≤ w.heap.size + 1 by omega))); clear hb))
 go_ret2
 exact ⟨_, rfl, Kd.R_lower HV3.out (by omega), HB3.out⟩
theorem one_retype (op : Int) (A B C S : ByteArray) (N k m : Int) (s : ByteArray) (A0 : Option Addr) (c0 : Nat) (cols : List Col) (w : World) (hr0 : Kd.C k53 w A0 cols.length cols) (hc0 : cols.length ≤ c0) (hn : cols.length ≤ 1000) (hop : op = 5) (hR : rightS ⟨op, A, B, C, S, N, k, m, s⟩ = true) (i : Int) (hi : JC cols A 0 = i) (hi0 : 0 ≤ i) (hi1 : i < cols.length) (hrf : refuseS ⟨op, A, B, C, S, N, k, m, s⟩ cols i = 0) :
  Calls Tryz.prog 18 #[.agg #[.int .i64 op, .string A, .string B, .string C, .string S, .int .i64 N, .int .i64 k, .int .i64 m, .string s], .slice A0 cols.length c0] w (OneR (cols.set i.toNat ⟨(rdC cols i).f0, N, ⟨#[]⟩⟩) 0 w) := by
 obtain rfl : op = 5 := hop
 have bcell : ∀ {W w1 : World}, Below W.heap.size W w1 → (∀ b o, b < W.heap.size → w1.cell? ⟨b, o, none⟩ = W.cell? ⟨b, o, none⟩) := fun hb b o h => hb.cell (p := ⟨b, o, none⟩) h
 have HBC := JN @bcell
 clear bcell
 have HR := JN hr0
 clear hr0
 have HB0 : Jv (∀ o, Below w.heap.size w (w.alloc o)) := ⟨fun o => JD (Below.refl w.heap.size w) o⟩
 have HCL : Jv (api_Col.f cols = some cols) := ⟨Ja⟩
 have hu1 := Tryz.underlying29
 have hu2 := Tryz.underlying53
 have hu3 := Tryz.underlying27
 have HRT : Jv (∀ W, Calls Tryz.prog 11 #[.agg #[.int .i64 5, .string A, .string B, .string C, .string S, .int .i64 N, .int .i64 k, .int .i64 m, .string s]] W fun e w' => e = .returned (.bool true) ∧ Below W.heap.size W w') := ⟨fun W => by
  have := sright_calls ⟨5, A, B, C, S, N, k, m, s⟩ W
  rwa [hR] at this⟩
 clear hR
 have HRF : Jv (∀ W, Kd.C k53 W A0 cols.length cols → Calls Tryz.prog 47 #[.agg #[.int .i64 5, .string A, .string B, .string C, .string S, .int .i64 N, .int .i64 k, .int .i64 m, .string s], .slice A0 cols.length c0, .int .i64 i] W fun e w' => e = .returned (.int .i64 0) ∧ Below W.heap.size W w') := ⟨fun W hW => by
  have := refuse_calls ⟨5, A, B, C, S, N, k, m, s⟩ A0 c0 cols i W hW hc0 hi0 hi1 (fun h => absurd h (show ¬ (5 : Int) = 4 by decide))
  rwa [hrf] at this⟩
 clear hrf
 have HF : Jv (shape_Find.f cols A = some i) := ⟨KF⟩
 clear hi
 go_enter Tryz.func18, Tryz.ntmps18
 go_wp2_with (first
  | (go_at_call 11; refine (HRT.out _).mono ?_; rintro e w1 ⟨rfl, hb⟩; have hc := HBC.out hb; have hz : w.heap.size < w1.heap.size := by { have h_ := hb.size; (try simp at h_); omega }; have HB := JN (JA (HB0.out _) (HB0.out _).size hb); clear hb)
  | (go_at_call 45; (with_reducible refine (shape_Find.calls _ _ _ _ _ _ (Kd.C_below HR.out HB.out) hc0 HF.out).mono ?_); rintro e w1 ⟨rfl, hb⟩; have hc := HBC.out hb; have hz : w.heap.size < w1.heap.size := by { have h_ := hb.size; (try simp at h_); omega }; have HB' := JN (JA HB.out HB.out.size hb); clear HB; have HB := HB'; clear HB' hb)
  | (go_at_call 46; refine (api_Col.calls _ _ _ _ _ (Kd.C_below HR.out HB.out) hc0 HCL.out).mono ?_; rintro e w1 ⟨v0, rfl, hv, hb⟩; have hc := HBC.out hb; have hz : w.heap.size < w1.heap.size := by { have h_ := hb.size; (try simp at h_); omega }; have HV : Jv (Kd.R k53 53 w1 (w.heap.size + 1) (fun _ => True) v0 cols) := ⟨Kd.R_lower hv (by omega)⟩; clear hv; have HB' := JN (JA HB.out HB.out.size hb); clear HB; have HB := HB'; clear HB' hb)
  | (go_at_call 47; refine (HRF.out _ (Kd.C_below HR.out HB.out)).mono ?_; rintro e w1 ⟨rfl, hb⟩; have hc := HBC.out hb; have hz : w.heap.size < w1.heap.size := by { have h_ := hb.size; (try simp at h_); omega }; have HV' := JN (Kd.R_below HV.out hb); clear HV; have HV := HV'; clear HV'; have HB' := JN (JA HB.out HB.out.size hb); clear HB; have HB := HB'; clear HB' hb; obtain ⟨g, cap, rfl, hg0, hg1, hg2⟩ := ownCol HV.out (by omega); have hq1 := getCol HV.out rfl i hi0 hi1 1 (by omega); have hr1 : w1.cell? ⟨g, i.toNat * 3 + 1, none⟩ = some (.int .i64 (rdC cols i).f1) := hq1.1; have hs1 : w1.frozen? ⟨g, i.toNat * 3 + 1, none⟩ = false := hq1.2; clear hq1; have hq2 := getCol HV.out rfl i hi0 hi1 2 (by omega); have hr2 : w1.cell? ⟨g, i.toNat * 3 + 2, none⟩ = some (.string (rdC cols i).f2) := hq2.1; have hs2 : w1.frozen? ⟨g, i.toNat * 3 + 2, none⟩ = false := hq2.2; clear hq2; have hgn : ¬ w.heap.size = g := (by omega); have hgm : ¬ g = w.heap.size := (by omega)))
 go_ret2
 have h1 := putCol HV.out rfl i hi0 hi1 1 (by omega) (.int .i64 N) ⟨(rdC cols i).f0, N, (rdC cols i).f2⟩ rfl
 have hn1 : cols.length = (cols.set i.toNat ⟨(rdC cols i).f0, N, (rdC cols i).f2⟩).length := (List.length_set ..).symm
 have e1 : JG (cols.set i.toNat ⟨(rdC cols i).f0, N, (rdC cols i).f2⟩) i = ⟨(rdC cols i).f0, N, (rdC cols i).f2⟩ := rd_set hi0 hi1 _
 have h2 := putCol h1 hn1 i hi0 (by omega) 2 (by omega) (.string ⟨#[]⟩) ⟨(rdC cols i).f0, N, ⟨#[]⟩⟩ (by rw [e1]; rfl)
 rw [List.set_set] at h2
 exact ⟨_, rfl, Kd.R_lower h2 (by omega), (HB.out.setCell (p := ⟨g, _, none⟩) (show w.heap.size ≤ g by omega) _).setCell (p := ⟨g, _, none⟩) (show w.heap.size ≤ g by omega) _⟩
theorem one_scale (op : Int) (A B C S : ByteArray) (N k m : Int) (s : ByteArray) (A0 : Option Addr) (c0 : Nat) (cols : List Col) (w : World) (hr0 : Kd.C k53 w A0 cols.length cols) (hc0 : cols.length ≤ c0) (hn : cols.length ≤ 1000) (hop : op = 6) (hR : rightS ⟨op, A, B, C, S, N, k, m, s⟩ = true) (i : Int) (hi : JC cols A 0 = i) (hi0 : 0 ≤ i) (hi1 : i < cols.length) (hrf : refuseS ⟨op, A, B, C, S, N, k, m, s⟩ cols i = 0) :
  Calls Tryz.prog 18 #[.agg #[.int .i64 op, .string A, .string B, .string C, .string S, .int .i64 N, .int .i64 k, .int .i64 m, .string s], .slice A0 cols.length c0] w (OneR (cols.set i.toNat ⟨(rdC cols i).f0, (rdC cols i).f1, B⟩) 0 w) := by
 obtain rfl : op = 6 := hop
 have bcell : ∀ {W w1 : World}, Below W.heap.size W w1 → (∀ b o, b < W.heap.size → w1.cell? ⟨b, o, none⟩ = W.cell? ⟨b, o, none⟩) := fun hb b o h => hb.cell (p := ⟨b, o, none⟩) h
 have HBC := JN @bcell
 clear bcell
 have HR := JN hr0
 clear hr0
 have HB0 : Jv (∀ o, Below w.heap.size w (w.alloc o)) := ⟨fun o => JD (Below.refl w.heap.size w) o⟩
 have HCL : Jv (api_Col.f cols = some cols) := ⟨Ja⟩
 have hu1 := Tryz.underlying29
 have hu2 := Tryz.underlying53
 have hu3 := Tryz.underlying27
 have HRT : Jv (∀ W, Calls Tryz.prog 11 #[.agg #[.int .i64 6, .string A, .string B, .string C, .string S, .int .i64 N, .int .i64 k, .int .i64 m, .string s]] W fun e w' => e = .returned (.bool true) ∧ Below W.heap.size W w') := ⟨fun W => by
  have := sright_calls ⟨6, A, B, C, S, N, k, m, s⟩ W
  rwa [hR] at this⟩
 clear hR
 have HRF : Jv (∀ W, Kd.C k53 W A0 cols.length cols → Calls Tryz.prog 47 #[.agg #[.int .i64 6, .string A, .string B, .string C, .string S, .int .i64 N, .int .i64 k, .int .i64 m, .string s], .slice A0 cols.length c0, .int .i64 i] W fun e w' => e = .returned (.int .i64 0) ∧ Below W.heap.size W w') := ⟨fun W hW => by
  have := refuse_calls ⟨6, A, B, C, S, N, k, m, s⟩ A0 c0 cols i W hW hc0 hi0 hi1 (fun h => absurd h (show ¬ (6 : Int) = 4 by decide))
  rwa [hrf] at this⟩
 clear hrf
 have HF : Jv (shape_Find.f cols A = some i) := ⟨KF⟩
 clear hi
 go_enter Tryz.func18, Tryz.ntmps18
 go_wp2_with (first
  | (go_at_call 11; refine (HRT.out _).mono ?_; rintro e w1 ⟨rfl, hb⟩; have hc := HBC.out hb; have hz : w.heap.size < w1.heap.size := by { have h_ := hb.size; (try simp at h_); omega }; have HB := JN (JA (HB0.out _) (HB0.out _).size hb); clear hb)
  | (go_at_call 45; (with_reducible refine (shape_Find.calls _ _ _ _ _ _ (Kd.C_below HR.out HB.out) hc0 HF.out).mono ?_); rintro e w1 ⟨rfl, hb⟩; have hc := HBC.out hb; have hz : w.heap.size < w1.heap.size := by { have h_ := hb.size; (try simp at h_); omega }; have HB' := JN (JA HB.out HB.out.size hb); clear HB; have HB := HB'; clear HB' hb)
  | (go_at_call 46; refine (api_Col.calls _ _ _ _ _ (Kd.C_below HR.out HB.out) hc0 HCL.out).mono ?_; rintro e w1 ⟨v0, rfl, hv, hb⟩; have hc := HBC.out hb; have hz : w.heap.size < w1.heap.size := by { have h_ := hb.size; (try simp at h_); omega }; have HV : Jv (Kd.R k53 53 w1 (w.heap.size + 1) (fun _ => True) v0 cols) := ⟨Kd.R_lower hv (by omega)⟩; clear hv; have HB' := JN (JA HB.out HB.out.size hb); clear HB; have HB := HB'; clear HB' hb)
  | (go_at_call 47; refine (HRF.out _ (Kd.C_below HR.out HB.out)).mono ?_; rintro e w1 ⟨rfl, hb⟩; have hc := HBC.out hb; have hz : w.heap.size < w1.heap.size := by { have h_ := hb.size; (try simp at h_); omega }; have HV' := JN (Kd.R_below HV.out hb); clear HV; have HV := HV'; clear HV'; have HB' := JN (JA HB.out HB.out.size hb); clear HB; have HB := HB'; clear HB' hb; obtain ⟨g, cap, rfl, hg0, hg1, hg2⟩ := ownCol HV.out (by omega); have hq2 := getCol HV.out rfl i hi0 hi1 2 (by omega); have hr2 : w1.cell? ⟨g, i.toNat * 3 + 2, none⟩ = some (.string (rdC cols i).f2) := hq2.1; have hs2 : w1.frozen? ⟨g, i.toNat * 3 + 2, none⟩ = false := hq2.2; clear hq2; have hgn : ¬ w.heap.size = g := (by omega); have hgm : ¬ g = w.heap.size := (by omega)))
 go_ret2
 exact ⟨_, rfl, Kd.R_lower (putCol HV.out rfl i hi0 hi1 2 (by omega) _ ⟨(rdC cols i).f0, (rdC cols i).f1, B⟩ rfl) (by omega), HB.out.setCell (p := ⟨g, _, none⟩) (show w.heap.size ≤ g by omega) _⟩
theorem rightS_op {x : Step} (h : rightS x = true) : x.f0 = 0 ∨ x.f0 = 1 ∨ x.f0 = 2 ∨ x.f0 = 3 ∨ x.f0 = 4 ∨ x.f0 = 5 ∨ x.f0 = 6 := by
 unfold rightS at h
 by_cases h0 : x.f0 = 0; · exact .inl h0
 by_cases h1 : x.f0 = 1; · exact .inr (.inl h1)
 by_cases h2 : x.f0 = 2; · exact .inr (.inr (.inl h2))
 by_cases h3 : x.f0 = 3; · exact .inr (.inr (.inr (.inl h3)))
 by_cases h4 : x.f0 = 4; · exact .inr (.inr (.inr (.inr (.inl h4))))
 by_cases h5 : x.f0 = 5; · exact .inr (.inr (.inr (.inr (.inr (.inl h5)))))
 by_cases h6 : x.f0 = 6; · exact .inr (.inr (.inr (.inr (.inr (.inr h6)))))
 rw [if_neg h0, if_neg h1, if_neg h2, if_neg h3, if_neg h4, if_neg h5, if_neg h6, Bool.and_false] at h
 cases h
theorem one_calls (x : Step) (A0 : Option Addr) (c0 : Nat) (cols : List Col) (w : World) (hr0 : Kd.C k53 w A0 cols.length cols) (hc0 : cols.length ≤ c0) (hn : cols.length ≤ 1000) :
  Calls Tryz.prog 18 #[.agg #[.int .i64 x.f0, .string x.f1, .string x.f2, .string x.f3, .string x.f4, .int .i64 x.f5, .int .i64 x.f6.f0, .int .i64 x.f6.f1, .string x.f6.f2], .slice A0 cols.length c0] w
   (OneR (oneS x cols).1 (oneS x cols).2 w) := by
 obtain ⟨op, A, B, C, S, N, k, m, s⟩ := x
 unfold oneS
 cases hR : rightS ⟨op, A, B, C, S, N, k, m, s⟩ with
 | false => rw [if_pos rfl]; exact one_bad op A B C S N k m s A0 c0 cols w hr0 hc0 hn hR
 | true =>
  rw [if_neg (by decide)]
  by_cases h0 : op = 0
  ·
   have := one_add op A B C S N k m s A0 c0 cols w hr0 hc0 hn h0 hR _ rfl
   rw [if_pos h0]
   by_cases hi : 0 ≤ JC cols A 0
   ·
    rw [if_pos hi, if_pos hi] at this; rw [if_pos hi]; exact this
   ·
    rw [if_neg hi, if_neg hi] at this; rw [if_neg hi]
    by_cases hl : 12 ≤ cols.length
    ·
     rw [if_pos hl, if_pos hl] at this; rw [if_pos hl]; exact this
    ·
     rw [if_neg hl, if_neg hl] at this; rw [if_neg hl]; exact this
  rw [if_neg h0]
  by_cases hi : JC cols A 0 < 0
  ·
   rw [if_pos (.inl hi)]; exact one_none op A B C S N k m s A0 c0 cols w hr0 hc0 hn hR h0 _ rfl hi
  have hi0 : 0 ≤ JC cols A 0 := by omega
  have hi1 := find_lt hi0
  by_cases h4 : op = 4
  ·
   by_cases hj : JC cols B 0 < 0
   ·
    rw [if_pos (.inr ⟨h4, hj⟩)]; exact one_nonej op A B C S N k m s A0 c0 cols w hr0 hc0 hn h4 hR _ rfl hi0 _ rfl hj
   rw [if_neg (by rintro (h | ⟨_, h⟩) <;> contradiction)]
   have hj0 : 0 ≤ JC cols B 0 := by omega
   have hj1 := find_lt hj0
   by_cases hrf : refuseS ⟨op, A, B, C, S, N, k, m, s⟩ cols (JC cols A 0) = 0
   ·
    rw [if_neg (by simpa using hrf)]
    have := one_join op A B C S N k m s A0 c0 cols w hr0 hc0 hn h4 hR _ rfl hi0 hi1 _ rfl hj0 hj1 hrf
    subst h4
    exact this
   ·
    rw [if_pos hrf]
    exact one_refj op A B C S N k m s A0 c0 cols w hr0 hc0 hn h4 hR _ rfl hi0 hi1 _ rfl hj0 hj1 _ rfl hrf
  rw [if_neg (by rintro (h | ⟨h, _⟩) <;> contradiction)]
  by_cases hrf : refuseS ⟨op, A, B, C, S, N, k, m, s⟩ cols (JC cols A 0) = 0
  ·
   rw [if_neg (by simpa using hrf)]
   rcases rightS_op hR with h | h | h | h | h | h | h
   ·
    exact absurd h h0
   ·
    have := one_drop op A B C S N k m s A0 c0 cols w hr0 hc0 hn h hR _ rfl hi0 hi1 hrf
    obtain rfl : op = 1 := h
    exact this
   ·
    have := one_rename op A B C S N k m s A0 c0 cols w hr0 hc0 hn h hR _ rfl hi0 hi1 hrf
    obtain rfl : op = 2 := h
    exact this
   ·
    have := one_split op A B C S N k m s A0 c0 cols w hr0 hc0 hn h hR _ rfl hi0 hi1 hrf
    obtain rfl : op = 3 := h
    exact this
   ·
    exact absurd h h4
   ·
    have := one_retype op A B C S N k m s A0 c0 cols w hr0 hc0 hn h hR _ rfl hi0 hi1 hrf
    obtain rfl : op = 5 := h
    exact this
   ·
    have := one_scale op A B C S N k m s A0 c0 cols w hr0 hc0 hn h hR _ rfl hi0 hi1 hrf
    obtain rfl : op = 6 := h
    exact this
  ·
   rw [if_pos hrf]
   exact one_ref op A B C S N k m s A0 c0 cols w hr0 hc0 hn hR h0 h4 _ rfl hi0 hi1 _ rfl hrf
theorem replace1EndVal (i m n : Nat) (g cap : Nat) (cur : Array Value) (l : List S27) (base : Nat) (w : World) (hbg : base ≤ g) (hg : w.heap[g]? = some (.cells cur 27 (0, 0))) (hn : n = l.length) (hnc : n ≤ cap) (hcm : cap ≤ maxLen) (hcs : cur.size = cap * 3)
  (htake : cur.toList.take (n * 3) = cellsOf JL l) (hm : m = i + 1) (hi : m + 1 = n) (vb : Nat) (a : S27) (hv : w.heap[vb]? = some (.cells (JL a).toArray 27 (0, 0))) :
  Calls Tryz.prog 107 #[.slice (some ⟨g, 0, none⟩) n cap, .int .i64 (i : Int), .int .i64 (n : Int), .slice (some ⟨vb, 0, none⟩) 1 1] w fun e w' => ∃ v0_ : Value, e = .returned v0_ ∧ Kd.R k27 27 w' base (fun _ => True) v0_ (l.take i ++ [a]) ∧ Below base w w' := by
 obtain ⟨i0, hi0, hz0, hz1, hz2⟩ := infoVal
 have mixed : Tryz.prog.follows Departure.mixedOrders = true := by kernel_rfl
 have hctl : cur.toList.length = cap * 3 := by rw [Array.length_toList, hcs]
 have hti : cur.toList.take (i * 3) = cellsOf JL (l.take i) := by
  rw [← cellsOf_take JK, ← htake, List.take_take, Nat.min_eq_left (by omega)]
 obtain ⟨ab, hab⟩ : ∃ ab, ab = JL a := ⟨_, rfl⟩
 have habl : ab.length = 3 := by rw [hab]; rfl
 have hab1 : ∀ u ∈ ab, u.oneCell' = true := by rw [hab]; exact encVal_one _
 rw [← hab] at hv
 obtain ⟨c1, hc1⟩ : ∃ c1 : List Value, c1 = cur.toList.take (i * 3) ++ ab ++ cur.toList.drop (i * 3 + ab.length) := ⟨_, rfl⟩
 have hc1l : c1.length = cap * 3 := by
  rw [hc1]
  simp only [List.length_append, List.length_take, List.length_drop, hctl, habl]
  omega
 have hap : ∀ ty, (Builtin.append_ #[36, 36] ty #[.slice (some ⟨g, 0, none⟩) i cap, .slice (some ⟨vb, 0, none⟩) 1 1]).run Tryz.prog w = .ok (.slice (some ⟨g, 0, none⟩) m cap) (w.setRow g c1.toArray) := by
  intro ty
  have h := run_append_room (P := Tryz.prog) w 36 ty 27 i0 Tryz.underlying36 hi0 g i cap cur hg ⟨vb, 0, none⟩ 1 1 ab (by rw [hz1, habl]) (fun t u hu => by
   rw [Addr.add_lit, cell_of_row w vb _ _ 27 (0, 0) hv, Nat.zero_add]
   simpa using hu) hab1 (by omega) (by rw [hz1, habl, hcs]; omega)
  rw [hz1] at h
  rw [hm, hc1]
  exact h
 have hg1 : (w.setRow g c1.toArray).heap[g]? = some (.cells c1.toArray 27 (0, 0)) := setRow_heap w g cur _ 27 _ hg
 have hzl : (Builtin.zeroCells (Value.agg (JL z27).toArray).cells 1).toList = JL z27 := by simp [Builtin.zeroCells, Value.cells]; rfl
 have hz1c : ∀ u ∈ (Builtin.zeroCells (Value.agg (JL z27).toArray).cells 1).toList, u.oneCell' = true := by rw [hzl]; exact encVal_one _
 have hzv : ∀ w, (zeroValue 27).run Tryz.prog w = .ok (Value.agg (JL z27).toArray) w := by intro w; simp [zeroValue, typeInfo, hi0, hz0]
 have hcl : ∀ ty, (Builtin.clear_ #[36] ty #[.slice (some ⟨g, m * 3, none⟩) (n - m) (cap - m)]).run Tryz.prog (w.setRow g c1.toArray) = .ok (.tuple #[]) ((w.setRow g c1.toArray).setCells g (m * 3) (JL z27)) := by
  intro ty
  rw [show n - m = 1 by omega, ← hzl]
  exact run_clear_k (w.setRow g c1.toArray) _ _ ty _ 3 Tryz.underlying36 hzv rfl g _ 1 _ (by omega) (fun t ht => row_cell hg1 _ (by rw [List.size_toArray, hc1l]; omega)) (fun t ht => row_frozen hg1 _) hz1c
 have hfin : Kd.R k27 27 ((w.setRow g c1.toArray).setCells g (m * 3) (JL z27)) base (fun _ => True) (.slice (some ⟨g, 0, none⟩) m cap) (l.take i ++ [a]) ∧ Below base w ((w.setRow g c1.toArray).setCells g (m * 3) (JL z27)) := by
  have hr2 := row_setCells Tryz.prog hg1 (m * 3) (JL z27) (by rw [List.size_toArray, hc1l, JK]; omega) (encVal_one _)
  have hlt : (l.take i).length = i := by rw [List.length_take]; omega
  have hll : (l.take i ++ [a]).length = m := by rw [List.length_append, hlt, List.length_singleton]; omega
  refine ⟨makeVal (fun _ _ => trivial) ⟨JI JK _, .inr ⟨g, cap, _, by rw [hll], hbg, by rw [hr2]; exact setRow_heap _ g _ _ 27 _ hg1, by rw [hll]; omega, hcm, ?_, ?_⟩⟩, ?_⟩
  ·
   simp only [List.size_toArray, List.toList_toArray, List.length_append, List.length_take, List.length_drop, hc1l, JK]
   omega
  ·
   rw [hll, List.toList_toArray, List.toList_toArray, List.append_assoc, List.take_left' (by rw [List.length_take, hc1l]; omega), hc1, hti, List.take_left' (by rw [List.length_append, JI JK, hlt, habl]; omega), cellsOf_append, hab]
   simp [cellsOf]
  ·
   rw [hr2]
   exact ⟨rfl, rfl, rfl, by simp [World.setRow], fun k hk => by rw [setRow_other _ _ _ _ (by omega), setRow_other _ _ _ _ (by omega)]⟩
 have HFIN := JN hfin
 have HAP := JN hap
 have hi1 : i < n := by omega
 have hic : i ≤ cap := by omega
 have hcm' : cap ≤ 9223372036854775807 := by unfold maxLen at hcm; omega
 have heq : ¬ (i = n) := by omega
 have hmn : m < n := by omega
 have hmn' : m ≤ n := by omega
 have hmc : ¬ (cap = m) := by omega
 clear hfin hap hg hv htake hcs hn hm hi hc1 hc1l hg1 hzl hz1c hzv hctl hti hab habl hab1
 go_enter Tryz.func107, Tryz.ntmps107
 go_wp2_with (at_builtin; refine Lib.wpList_append_run _ rfl _ _ _ _ rfl _ _ rfl rfl _ _ (HAP.out _) ?_)
 go_ret
 exact ⟨_, rfl, HFIN.out.1, HFIN.out.2⟩
theorem replace1MidVal (i j t n : Nat) (g cap : Nat) (cur : Array Value) (l : List S27) (base : Nat) (w : World) (hbg : base ≤ g) (hg : w.heap[g]? = some (.cells cur 27 (0, 0))) (hn : n = l.length) (hnc : n ≤ cap) (hcm : cap ≤ maxLen) (hcs : cur.size = cap * 3)
  (htake : cur.toList.take (n * 3) = cellsOf JL l) (hj : j = i + 2) (hi : j < n) (ht : t + 1 = n) (vb : Nat) (a : S27) (hv : w.heap[vb]? = some (.cells (JL a).toArray 27 (0, 0))) :
  Calls Tryz.prog 107 #[.slice (some ⟨g, 0, none⟩) n cap, .int .i64 (i : Int), .int .i64 (j : Int), .slice (some ⟨vb, 0, none⟩) 1 1] w fun e w' => ∃ v0_ : Value, e = .returned v0_ ∧ Kd.R k27 27 w' base (fun _ => True) v0_ (l.take i ++ [a] ++ l.drop j) ∧ Below base w w' := by
 obtain ⟨i0, hi0, hz0, hz1, hz2⟩ := infoVal
 have mixed : Tryz.prog.follows Departure.mixedOrders = true := by kernel_rfl
 have hsz : (Tryz.prog.info? 27).map (·.size) = some 3 := by rw [hi0]; simp [hz1]
 have hctl : cur.toList.length = cap * 3 := by rw [Array.length_toList, hcs]
 have hti : cur.toList.take (i * 3) = cellsOf JL (l.take i) := by
  rw [← cellsOf_take JK, ← htake, List.take_take, Nat.min_eq_left (by omega)]
 obtain ⟨ab, hab⟩ : ∃ ab, ab = JL a := ⟨_, rfl⟩
 have habl : ab.length = 3 := by rw [hab]; rfl
 have hab1 : ∀ u ∈ ab, u.oneCell' = true := by rw [hab]; exact encVal_one _
 rw [← hab] at hv
 obtain ⟨c1, hc1⟩ : ∃ c1 : List Value, c1 = cur.toList.take (i * 3) ++ ab ++ cur.toList.drop (i * 3 + ab.length) := ⟨_, rfl⟩
 have hc1l : c1.length = cap * 3 := by
  rw [hc1]
  simp only [List.length_append, List.length_take, List.length_drop, hctl, habl]
  omega
 obtain ⟨news, hnews⟩ : ∃ news, news = cellsOf JL (l.drop j) := ⟨_, rfl⟩
 have hnl : news.length = (n - j) * 3 := by rw [hnews, JI JK, List.length_drop, hn]
 have hn1 : ∀ u ∈ news, u.oneCell' = true := by rw [hnews]; exact cellsOf_one encVal_one _
 obtain ⟨c2, hc2⟩ : ∃ c2 : List Value, c2 = c1.take ((i + 1) * 3) ++ news ++ c1.drop ((i + 1) * 3 + news.length) := ⟨_, rfl⟩
 have hc2l : c2.length = cap * 3 := by
  rw [hc2]
  simp only [List.length_append, List.length_take, List.length_drop, hc1l, hnl]
  omega
 have hcpA : ∀ q ty dc, (Builtin.copy_ #[36, 36] ty #[.slice (some ⟨g, i * 3, none⟩) (t - i) dc, .slice (some ⟨vb, 0, none⟩) 1 1]).run Tryz.prog (w.drewN q) = .ok (goInt 1) ((w.drewN q).setCells g (i * 3) ab) := by
  intro q ty dc
  have hmin : Nat.min 1 (t - i) = 1 := Nat.min_eq_left (by omega)
  have := run_copy_k (P := Tryz.prog) (w.drewN q) 36 36 ty 27 3 g (i * 3) (t - i) dc ⟨vb, 0, none⟩ 1 1 ab Tryz.underlying36 hsz (by rw [hmin, habl]) (fun k u hu => by
    rw [Addr.add_lit, cell_of_row (w.drewN q) vb _ _ 27 (0, 0) hv, Nat.zero_add]
    simpa using hu) (fun k hk => row_cell (w := w.drewN q) hg _ (by rw [habl] at hk; rw [hcs]; omega)) (fun k hk => row_frozen (w := w.drewN q) hg _) hab1
  rw [hmin] at this
  exact this
 have hr1 : ∀ q, (w.drewN q).setCells g (i * 3) ab = (w.drewN q).setRow g c1.toArray := fun q => by
  rw [hc1]; exact row_setCells Tryz.prog (w := w.drewN q) hg _ _ (by rw [hcs, habl]; omega) hab1
 have hg1 : ∀ q, ((w.drewN q).setCells g (i * 3) ab).heap[g]? = some (.cells c1.toArray 27 (0, 0)) := fun q => by
  rw [hr1]; exact setRow_heap (w.drewN q) g cur _ 27 _ hg
 have hcpB : ∀ (W : World) (dl : Nat), W.heap[g]? = some (.cells c1.toArray 27 (0, 0)) → dl = t - (i + 1) → ∀ ty dc sc, (Builtin.copy_ #[36, 36] ty #[.slice (some ⟨g, (i + 1) * 3, none⟩) dl dc, .slice (some ⟨g, j * 3, none⟩) (n - j) sc]).run Tryz.prog W = .ok (goInt ((n - j : Nat) : Int)) (W.setCells g ((i + 1) * 3) news) := by
  intro W dl hW hdl ty dc sc
  have hmin : Nat.min (n - j) dl = n - j := by rw [hdl, show t - (i + 1) = n - j by omega]; exact Nat.min_self _
  have := run_copy_k (P := Tryz.prog) W 36 36 ty 27 3 g ((i + 1) * 3) dl dc ⟨g, j * 3, none⟩ (n - j) sc news Tryz.underlying36 hsz (by rw [hmin, hnl]) (fun k u hu => by
    have hk := (List.getElem?_eq_some_iff.1 hu).1
    rw [hnl] at hk
    rw [Addr.add_lit, cell_of_row W g _ _ 27 (0, 0) hW, List.getElem?_toArray, hc1, List.getElem?_append_right (by rw [List.length_append, List.length_take, hctl, habl]; omega), List.getElem?_drop]
    rw [hnews, ← cellsOf_drop JK, List.getElem?_drop, ← htake, List.getElem?_take_of_lt (by omega)] at hu
    rw [← hu]
    congr 1
    rw [List.length_append, List.length_take, hctl, habl]
    omega) (fun k hk => row_cell hW _ (by rw [hnl] at hk; rw [List.size_toArray, hc1l]; omega)) (fun k hk => row_frozen hW _) hn1
  rw [hmin] at this
  exact this
 have hr2 : ∀ q, ((w.drewN q).setCells g (i * 3) ab).drew.setCells g ((i + 1) * 3) news = ((w.drewN q).setCells g (i * 3) ab).drew.setRow g c2.toArray := fun q => by
  rw [hc2]
  have := row_setCells Tryz.prog (w := ((w.drewN q).setCells g (i * 3) ab).drew) (hg1 q) ((i + 1) * 3) news (by rw [List.size_toArray, hc1l, hnl]; omega) hn1
  rw [List.toList_toArray] at this
  exact this
 have hg2 : ∀ q, (((w.drewN q).setCells g (i * 3) ab).drew.setCells g ((i + 1) * 3) news).heap[g]? = some (.cells c2.toArray 27 (0, 0)) := fun q => by
  rw [hr2]; exact setRow_heap _ g _ _ 27 _ (hg1 q)
 have hzl : (Builtin.zeroCells (Value.agg (JL z27).toArray).cells 1).toList = JL z27 := by simp [Builtin.zeroCells, Value.cells]; rfl
 have hz1c : ∀ u ∈ (Builtin.zeroCells (Value.agg (JL z27).toArray).cells 1).toList, u.oneCell' = true := by rw [hzl]; exact encVal_one _
 have hzv : ∀ w, (zeroValue 27).run Tryz.prog w = .ok (Value.agg (JL z27).toArray) w := by intro w; simp [zeroValue, typeInfo, hi0, hz0]
 have hcl : ∀ q ty, (Builtin.clear_ #[36] ty #[.slice (some ⟨g, t * 3, none⟩) (n - t) (cap - t)]).run Tryz.prog (((w.drewN q).setCells g (i * 3) ab).drew.setCells g ((i + 1) * 3) news) = .ok (.tuple #[]) ((((w.drewN q).setCells g (i * 3) ab).drew.setCells g ((i + 1) * 3) news).setCells g (t * 3) (JL z27)) := by
  intro q ty
  rw [show n - t = 1 by omega, ← hzl]
  exact run_clear_k _ _ _ ty _ 3 Tryz.underlying36 hzv rfl g _ 1 _ (by omega) (fun k hk => row_cell (hg2 q) _ (by rw [List.size_toArray, hc2l]; omega)) (fun k hk => row_frozen (hg2 q) _) hz1c
 have hfin : ∀ q, Kd.R k27 27 ((((w.drewN q).setCells g (i * 3) ab).drew.setCells g ((i + 1) * 3) news).setCells g (t * 3) (JL z27)) base (fun _ => True) (.slice (some ⟨g, 0, none⟩) t cap) (l.take i ++ [a] ++ l.drop j) ∧ Below base w ((((w.drewN q).setCells g (i * 3) ab).drew.setCells g ((i + 1) * 3) news).setCells g (t * 3) (JL z27)) := by
  intro q
  have hr3 := row_setCells Tryz.prog (hg2 q) (t * 3) (JL z27) (by rw [List.size_toArray, hc2l, JK]; omega) (encVal_one _)
  have hlt : (l.take i).length = i := by rw [List.length_take]; omega
  have hll : (l.take i ++ [a] ++ l.drop j).length = t := by rw [List.length_append, List.length_append, hlt, List.length_singleton, List.length_drop]; omega
  have ht1 : c1.take ((i + 1) * 3) = cellsOf JL (l.take i) ++ ab := by
   rw [hc1, hti, List.take_left' (by rw [List.length_append, JI JK, hlt, habl]; omega)]
  have ht2 : c2.take (t * 3) = cellsOf JL (l.take i) ++ ab ++ news := by
   rw [hc2, ht1, List.take_left' (by rw [List.length_append, List.length_append, JI JK, hlt, habl, hnl]; omega)]
  refine ⟨makeVal (fun _ _ => trivial) ⟨JI JK _, .inr ⟨g, cap, _, by rw [hll], hbg, by rw [hr3]; exact setRow_heap _ g _ _ 27 _ (hg2 q), by rw [hll]; omega, hcm, ?_, ?_⟩⟩, ?_⟩
  ·
   simp only [List.size_toArray, List.toList_toArray, List.length_append, List.length_take, List.length_drop, hc2l, JK]
   omega
  ·
   rw [hll, List.toList_toArray, List.toList_toArray, List.append_assoc, List.take_left' (by rw [List.length_take, hc2l]; omega), ht2, cellsOf_append, cellsOf_append, hab, hnews]
   simp [cellsOf]
  ·
   rw [hr3, hr2, hr1]
   exact ⟨rfl, rfl, rfl, by simp [World.setRow, World.drewN, World.drew], fun k hk => by rw [setRow_other _ _ _ _ (by omega), setRow_other _ _ _ _ (by omega)]; exact setRow_other (w.drewN q) _ _ _ (by omega)⟩
 have HFIN := JN hfin
 have HCPB := JN hcpB
 have HG1 := JN hg1
 have hi1 : i < n := by omega
 have hij : i < j := by omega
 have heq : ¬ (i = j) := by omega
 have hjn : ¬ (j = n) := by omega
 have hjn' : j ≤ n := by omega
 have hic : i ≤ cap := by omega
 have hjc : j ≤ cap := by omega
 have hcm' : cap ≤ 9223372036854775807 := by unfold maxLen at hcm; omega
 have hw1 : IntKind.i64.wrap ((i : Int) + 1) = (i : Int) + 1 := by rw [IntKind.wrap_i64]; omega
 have hw2 : IntKind.i64.wrap ((i : Int) + 1 + ((n - j : Nat) : Int)) = (t : Int) := by rw [IntKind.wrap_i64]; omega
 have hb1 : (0 : Int) ≤ (i : Int) + 1 := by omega
 have htn : ((i : Int) + 1).toNat = i + 1 := by omega
 have hb2 : (i : Int) + 1 ≤ (j : Int) := by omega
 have htc : t ≤ cap := by omega
 have htn' : t ≤ n := by omega
 have hb3 : (i : Int) + 1 ≤ (t : Int) := by omega
 have hb3' : i ≤ t := by omega
 have hb4 : ¬ (cap = i + 1) := by omega
 have hb5 : ¬ (cap = j) := by omega
 have hb6 : ¬ (cap = i) := by omega
 have hb7 : ¬ (cap = t) := by omega
 clear hfin hcpB hg1 hg2 hr1 hr2 hg hv htake hcs hn hj hi ht hc1 hc1l hc2 hc2l hnews hnl hn1 hzl hz1c hzv hctl hti hab habl hab1
 go_enter Tryz.func107, Tryz.ntmps107
 go_wp2
 go_quiet (fail)
 go_wp2
 go_region_law_o (refine step_copy_runI rfl _ _ 36 36 rfl (.slice (some ⟨g, (i + 1) * 3, none⟩) (t - (i + 1)) (cap - (i + 1))) (.slice (some ⟨g, j * 3, none⟩) (n - j) (cap - j)) (Je) (Je) (HCPB.out _ _ (by exact HG1.out _) rfl _ _ _) ?_)
 go_wp2
 go_ret
 exact ⟨_, rfl, (HFIN.out _).1, (HFIN.out _).2⟩
theorem replace1Val (x y : Int) (v : Value) (l : List S27) (base : Nat) (w : World) (ho : Kd.R k27 27 w base (fun _ => True) v l) (h0 : 0 ≤ x) (h1 : x + 1 < l.length) (hy : y = x + 2) (vb : Nat) (a : S27) (hv : w.heap[vb]? = some (.cells (JL a).toArray 27 (0, 0))) :
  Calls Tryz.prog 107 #[v, .int .i64 x, .int .i64 y, .slice (some ⟨vb, 0, none⟩) 1 1] w fun e w' => ∃ v0_ : Value, e = .returned v0_ ∧ Kd.R k27 27 w' base (fun _ => True) v0_ (l.take x.toNat ++ [a] ++ l.drop (x.toNat + 2)) ∧ Below base w w' := by
 obtain ⟨hok, hown⟩ := openVal ho
 obtain ⟨g, cap, cur, rfl, hbg, hg, hnc, hcm, hcs, htake⟩ := own_open hown (by omega)
 obtain ⟨i, rfl⟩ : ∃ i : Nat, x = i := ⟨x.toNat, by omega⟩
 obtain ⟨j, rfl⟩ : ∃ j : Nat, y = j := ⟨y.toNat, by omega⟩
 have hj : j = i + 2 := by omega
 rw [Int.toNat_natCast]
 by_cases he : j = l.length
 ·
  have := replace1EndVal i (i + 1) j g cap cur l base w hbg hg he (by omega) hcm hcs (by rw [he]; exact htake) rfl (by omega) vb a hv
  rw [← he, List.drop_of_length_le (show l.length ≤ i + 2 by omega), List.append_nil]
  exact this
 ·
  rw [← hj]
  exact replace1MidVal i j (l.length - 1) l.length g cap cur l base w hbg hg rfl hnc hcm hcs htake hj (by omega) (by omega) vb a hv
theorem setRow_size (w : World) (g : Nat) (cs : Array Value) : (w.setRow g cs).heap.size = w.heap.size := by simp [World.setRow]
theorem insert1EndVal (n : Nat) (g cap : Nat) (cur : Array Value) (l : List S27) (base : Nat) (w : World) (hbg : base ≤ g) (hg : w.heap[g]? = some (.cells cur 27 (0, 0))) (hn : n = l.length) (hnc : n ≤ cap) (hcm : cap ≤ maxLen) (hcs : cur.size = cap * 3)
  (htake : cur.toList.take (n * 3) = cellsOf JL l) (vb : Nat) (a : S27) (hv : w.heap[vb]? = some (.cells (JL a).toArray 27 (0, 0))) (hlen : (n + 1) * 32 ≤ 140737488355328) (hbase : base ≤ w.heap.size) :
  Calls Tryz.prog 121 #[.slice (some ⟨g, 0, none⟩) n cap, .int .i64 (n : Int), .slice (some ⟨vb, 0, none⟩) 1 1] w fun e w' => ∃ v0_ : Value, e = .returned v0_ ∧ Kd.R k27 27 w' base (fun _ => True) v0_ (l ++ [a]) ∧ Below base w w' := by
 obtain ⟨i0, hi0, hz0, hz1, hz2⟩ := infoVal
 have mixed : Tryz.prog.follows Departure.mixedOrders = true := by kernel_rfl
 have hown : w.ownsRow base 27 3 (.slice (some ⟨g, 0, none⟩) n cap) n (cellsOf JL l) := by
  exact ⟨by rw [JI JK, hn], .inr ⟨g, cap, cur, rfl, hbg, hg, hnc, hcm, hcs, htake⟩⟩
 have hsrc : Aside (∀ j u, (JL a)[j]? = some u → w.cell? ((⟨vb, 0, none⟩ : Addr).add j) = some u) := by
  intro j u hu
  rw [Addr.add_lit, cell_of_row w vb _ _ 27 (0, 0) hv, Nat.zero_add]
  simpa using hu
 have HO := JN hown
 have HT := JN hn
 have hcm' : cap ≤ 9223372036854775807 := by unfold maxLen at hcm; omega
 clear hown hg hv htake hcs hn
 by_cases hcn : cap = n
 ·
  subst hcn
  go_enter Tryz.func121, Tryz.ntmps121
  go_wp2_with (at_builtin; refine wpList_append_own _ rfl _ _ 36 rfl base 27 i0 (.agg (JL z27).toArray) 3 32 Tryz.underlying36 hi0 hz0 hz1 hz2 rfl (by omega) _ _ _ rfl HO.out ⟨vb, 0, none⟩ 1 1 (JL a) rfl ?qc1 ?qc2 ?qc3 ?qc4 ?qc5 ?qc6 ?_)
  case qc1 => rfl
  case qc2 => exact hsrc.out
  case qc3 =>
   exact encVal_one _
  case qc4 => unfold maxLen; omega
  case qc5 => exact hlen
  case qc6 => exact hbase
  intro v' w1 hown1 hgrow hnil
  have HO1 := JN hown1
  have HG := JN hgrow
  clear hown1 hgrow hnil
  go_wp2
  go_ret
  refine ⟨_, rfl, ?_, ?_⟩
  ·
   refine makeVal (fun _ _ => trivial) ?_
   have := HO1.out
   rw [cellsOf_append, List.length_append, ← HT.out]
   simpa [cellsOf] using this
  ·
   exact (Below.refl base w).grown HG.out hbase (Jt)
 ·
  skip
  go_enter Tryz.func121, Tryz.ntmps121
  go_wp2_with (at_builtin; refine wpList_append_own _ rfl _ _ 36 rfl base 27 i0 (.agg (JL z27).toArray) 3 32 Tryz.underlying36 hi0 hz0 hz1 hz2 rfl (by omega) _ _ _ rfl HO.out ⟨vb, 0, none⟩ 1 1 (JL a) rfl ?qc1 ?qc2 ?qc3 ?qc4 ?qc5 ?qc6 ?_)
  case qc1 => rfl
  case qc2 => exact hsrc.out
  case qc3 =>
   exact encVal_one _
  case qc4 => unfold maxLen; omega
  case qc5 => exact hlen
  case qc6 => exact hbase
  intro v' w1 hown1 hgrow hnil
  have HO1 := JN hown1
  have HG := JN hgrow
  clear hown1 hgrow hnil
  go_wp2
  go_ret
  refine ⟨_, rfl, ?_, ?_⟩
  ·
   refine makeVal (fun _ _ => trivial) ?_
   have := HO1.out
   rw [cellsOf_append, List.length_append, ← HT.out]
   simpa [cellsOf] using this
  ·
   exact (Below.refl base w).grown HG.out hbase (Jt)
theorem insert1RoomVal (i n : Nat) (g cap : Nat) (cur : Array Value) (l : List S27) (base : Nat) (w : World) (hbg : base ≤ g) (hg : w.heap[g]? = some (.cells cur 27 (0, 0))) (hn : n = l.length) (hnc : n + 1 ≤ cap) (hcm : cap ≤ maxLen) (hcs : cur.size = cap * 3)
  (htake : cur.toList.take (n * 3) = cellsOf JL l) (hi : i < n) (vb : Nat) (a : S27) (hv : w.heap[vb]? = some (.cells (JL a).toArray 27 (0, 0))) (hne : vb ≠ g) :
  Calls Tryz.prog 121 #[.slice (some ⟨g, 0, none⟩) n cap, .int .i64 (i : Int), .slice (some ⟨vb, 0, none⟩) 1 1] w fun e w' => ∃ v0_ : Value, e = .returned v0_ ∧ Kd.R k27 27 w' base (fun _ => True) v0_ (l.take i ++ [a] ++ l.drop i) ∧ Below base w w' := by
 obtain ⟨i0, hi0, hz0, hz1, hz2⟩ := infoVal
 have mixed : Tryz.prog.follows Departure.mixedOrders = true := by kernel_rfl
 have hsz : (Tryz.prog.info? 27).map (·.size) = some 3 := by rw [hi0]; simp [hz1]
 have hz3 : ∀ w, (Go.sizeOf 27).run Tryz.prog w = .ok 3 w := by intro w; simp [Go.sizeOf, typeInfo, hi0, hz1]
 have hcm' : cap ≤ 9223372036854775807 := by unfold maxLen at hcm; omega
 have hctl : cur.toList.length = cap * 3 := by rw [Array.length_toList, hcs]
 have hti : cur.toList.take (i * 3) = cellsOf JL (l.take i) := by
  rw [← cellsOf_take JK, ← htake, List.take_take, Nat.min_eq_left (by omega)]
 have hshg : w.shape? g = some (27, cur.size) := by simp [World.shape?, hg]
 have hshv : w.shape? vb = some (27, 3) := by simp [World.shape?, hv]
 have hov : ∀ lb cb, (callFunc 137 #[.slice (some ⟨vb, 0, none⟩) 1 1, .slice (some ⟨g, (i + 1) * 3, none⟩) lb cb]).run Tryz.prog w = .ok (.value (.bool false)) w := fun lb cb => by
  rw [run_callFunc_extern Tryz.func137 (Kg) (Kg) (Kg) (e := Extern.SlicesOverlaps.overlaps #[36, 36] #[4]) (Kg),
   Lib.run_overlaps_apart w 36 4 27 Tryz.underlying36 3 hz3 ⟨vb, 0, none⟩ ⟨g, (i + 1) * 3, none⟩ 1 1 lb cb hne 27 27 3 cur.size hshv hshg (by omega) (row_frozen hv _) (row_frozen hv _)]
  rfl
 obtain ⟨ab, hab⟩ : ∃ ab, ab = JL a := ⟨_, rfl⟩
 have habl : ab.length = 3 := by rw [hab]; rfl
 have hab1 : ∀ u ∈ ab, u.oneCell' = true := by rw [hab]; exact encVal_one _
 rw [← hab] at hv
 obtain ⟨news, hnews⟩ : ∃ news, news = cellsOf JL (l.drop i) := ⟨_, rfl⟩
 have hnl : news.length = (n - i) * 3 := by rw [hnews, JI JK, List.length_drop, hn]
 have hn1 : ∀ u ∈ news, u.oneCell' = true := by rw [hnews]; exact cellsOf_one encVal_one _
 obtain ⟨c1, hc1⟩ : ∃ c1 : List Value, c1 = cur.toList.take ((i + 1) * 3) ++ news ++ cur.toList.drop ((i + 1) * 3 + news.length) := ⟨_, rfl⟩
 have hc1l : c1.length = cap * 3 := by
  rw [hc1]
  simp only [List.length_append, List.length_take, List.length_drop, hctl, hnl]
  omega
 have hcp1 : ∀ (W : World) (dl : Nat), W.heap[g]? = some (.cells cur 27 (0, 0)) → dl = n - i → ∀ ty dc sc, (Builtin.copy_ #[36, 36] ty #[.slice (some ⟨g, (i + 1) * 3, none⟩) dl dc, .slice (some ⟨g, i * 3, none⟩) (n + 1 - i) sc]).run Tryz.prog W = .ok (goInt ((n - i : Nat) : Int)) (W.setCells g ((i + 1) * 3) news) := by
  intro W dl hW hdl ty dc sc
  have hmin : Nat.min (n + 1 - i) dl = n - i := by rw [hdl]; exact Nat.min_eq_right (by omega)
  have := run_copy_k (P := Tryz.prog) W 36 36 ty 27 3 g ((i + 1) * 3) dl dc ⟨g, i * 3, none⟩ (n + 1 - i) sc news Tryz.underlying36 hsz (by rw [hmin, hnl]) (fun k u hu => by
    have hk := (List.getElem?_eq_some_iff.1 hu).1
    rw [hnl] at hk
    rw [Addr.add_lit, cell_of_row W g _ cur 27 (0, 0) hW, ← Array.getElem?_toList]
    rw [hnews, ← cellsOf_drop JK, List.getElem?_drop, ← htake, List.getElem?_take_of_lt (by omega)] at hu
    exact hu) (fun k hk => row_cell hW _ (by rw [hnl] at hk; rw [hcs]; omega)) (fun k hk => row_frozen hW _) hn1
  rw [hmin] at this
  exact this
 have hr1 : w.drew.setCells g ((i + 1) * 3) news = w.drew.setRow g c1.toArray := by
  rw [hc1]; exact row_setCells Tryz.prog (w := w.drew) hg _ _ (by rw [hcs, hnl]; omega) hn1
 have hg1 : (w.drew.setCells g ((i + 1) * 3) news).heap[g]? = some (.cells c1.toArray 27 (0, 0)) := by
  rw [hr1]; exact setRow_heap w.drew g cur _ 27 _ hg
 have hv1 : (w.drew.setCells g ((i + 1) * 3) news).heap[vb]? = some (.cells ab.toArray 27 (0, 0)) := by
  rw [hr1, setRow_other _ _ _ _ hne]; exact hv
 have hcp2 : ∀ ty dc, (Builtin.copy_ #[36, 36] ty #[.slice (some ⟨g, i * 3, none⟩) (n + 1 - i) dc, .slice (some ⟨vb, 0, none⟩) 1 1]).run Tryz.prog (w.drew.setCells g ((i + 1) * 3) news) = .ok (goInt 1) ((w.drew.setCells g ((i + 1) * 3) news).setCells g (i * 3) ab) := by
  intro ty dc
  have hmin : Nat.min 1 (n + 1 - i) = 1 := Nat.min_eq_left (by omega)
  have := run_copy_k (P := Tryz.prog) (w.drew.setCells g ((i + 1) * 3) news) 36 36 ty 27 3 g (i * 3) (n + 1 - i) dc ⟨vb, 0, none⟩ 1 1 ab Tryz.underlying36 hsz (by rw [hmin, habl]) (fun k u hu => by
    rw [Addr.add_lit, cell_of_row _ vb _ _ 27 (0, 0) hv1, Nat.zero_add]
    simpa using hu) (fun k hk => row_cell hg1 _ (by rw [habl] at hk; rw [List.size_toArray, hc1l]; omega)) (fun k hk => row_frozen hg1 _) hab1
  rw [hmin] at this
  exact this
 have hfin : Kd.R k27 27 ((w.drew.setCells g ((i + 1) * 3) news).setCells g (i * 3) ab) base (fun _ => True) (.slice (some ⟨g, 0, none⟩) (n + 1) cap) (l.take i ++ [a] ++ l.drop i) ∧ Below base w ((w.drew.setCells g ((i + 1) * 3) news).setCells g (i * 3) ab) := by
  have hr2 := row_setCells Tryz.prog hg1 (i * 3) ab (by rw [List.size_toArray, hc1l, habl]; omega) hab1
  have hlt : (l.take i).length = i := by rw [List.length_take]; omega
  have hll : (l.take i ++ [a] ++ l.drop i).length = n + 1 := by rw [List.length_append, List.length_append, hlt, List.length_singleton, List.length_drop]; omega
  have ht1 : c1.take (i * 3) = cellsOf JL (l.take i) := by
   rw [hc1, List.append_assoc, List.take_append_of_le_length (by rw [List.length_take, hctl]; omega), List.take_take, Nat.min_eq_left (by omega), hti]
  have hd1 : c1.drop (i * 3 + 3) = news ++ cur.toList.drop ((i + 1) * 3 + news.length) := by
   rw [hc1, List.append_assoc, List.drop_left' (by rw [List.length_take, hctl]; omega)]
  refine ⟨makeVal (fun _ _ => trivial) ⟨JI JK _, .inr ⟨g, cap, _, by rw [hll], hbg, by rw [hr2]; exact setRow_heap _ g _ _ 27 _ hg1, by rw [hll]; exact hnc, hcm, ?_, ?_⟩⟩, ?_⟩
  ·
   simp only [List.size_toArray, List.toList_toArray, List.length_append, List.length_take, List.length_drop, hc1l, habl]
   omega
  ·
   rw [hll, List.toList_toArray, List.toList_toArray, ht1, habl, hd1, ← List.append_assoc, cellsOf_append, cellsOf_append, ← hnews]
   have hab2 : cellsOf JL [a] = ab := by rw [hab]; simp [cellsOf]
   rw [hab2, List.take_left']
   rw [List.length_append, List.length_append, JI JK, hlt, habl, hnl]
   omega
  ·
   rw [hr2, hr1]
   exact ⟨rfl, rfl, rfl, by rw [setRow_size, setRow_size]; exact Nat.le_refl _, fun k hk => by rw [setRow_other _ _ _ _ (by omega), setRow_other _ _ _ _ (by omega)]; rfl⟩
 have HFIN := JN hfin
 have HCP1 := JN hcp1
 have HG := JN hg
 have hin : ¬ (i = n) := by omega
 have hin' : i ≤ n := by omega
 have hic : i ≤ cap := by omega
 have hw1 : IntKind.i64.wrap ((n : Int) + 1) = (n : Int) + 1 := by rw [IntKind.wrap_i64]; omega
 have hw2 : IntKind.i64.wrap ((i : Int) + 1) = (i : Int) + 1 := by rw [IntKind.wrap_i64]; omega
 have hb0 : ¬ ((cap : Int) < (n : Int) + 1) := by omega
 have hb1 : (0 : Int) ≤ (i : Int) + 1 := by omega
 have hb1' : (0 : Int) ≤ (n : Int) + 1 := by omega
 have htn : ((i : Int) + 1).toNat = i + 1 := by omega
 have htn' : ((n : Int) + 1).toNat = n + 1 := by omega
 have hb2 : (n : Int) + 1 ≤ (cap : Int) := by omega
 have hb3 : (i : Int) + 1 ≤ (n : Int) + 1 := by omega
 have hb4 : (i : Int) ≤ (n : Int) + 1 := by omega
 have hb5 : ¬ (cap = i + 1) := by omega
 have hb6 : ¬ (cap = i) := by omega
 clear hfin hcp1 hg hv htake hcs hn hr1 hg1 hv1 hc1 hc1l hnews hnl hn1 hctl hti hab habl hab1 hshg hshv
 go_enter Tryz.func121, Tryz.ntmps121
 go_wp2_with (simp only [hov])
 go_region_law_o (refine step_copy_runI rfl _ _ 36 36 rfl (.slice (some ⟨g, (i + 1) * 3, none⟩) (n - i) (cap - (i + 1))) (.slice (some ⟨g, i * 3, none⟩) (n + 1 - i) (cap - i)) (Je) (Je) (HCP1.out _ _ (by exact HG.out) rfl _ _ _) ?_)
 go_wp2
 go_ret
 exact ⟨_, rfl, HFIN.out.1, HFIN.out.2⟩
theorem insert1GrowVal (i n : Nat) (g cap : Nat) (cur : Array Value) (l : List S27) (base : Nat) (w : World) (hbg : base ≤ g) (hg : w.heap[g]? = some (.cells cur 27 (0, 0))) (hn : n = l.length) (hnc : n ≤ cap) (hroom : cap < n + 1) (hcs : cur.size = cap * 3)
  (htake : cur.toList.take (n * 3) = cellsOf JL l) (hi : i < n) (vb : Nat) (a : S27) (hv : w.heap[vb]? = some (.cells (JL a).toArray 27 (0, 0))) (hlen : (n + 1) * 32 ≤ 140737488355328) (hbase : base ≤ w.heap.size) :
  Calls Tryz.prog 121 #[.slice (some ⟨g, 0, none⟩) n cap, .int .i64 (i : Int), .slice (some ⟨vb, 0, none⟩) 1 1] w fun e w' => ∃ v0_ : Value, e = .returned v0_ ∧ Kd.R k27 27 w' base (fun _ => True) v0_ (l.take i ++ [a] ++ l.drop i) ∧ Below base w w' := by
 obtain ⟨i0, hi0, hz0, hz1, hz2⟩ := infoVal
 have mixed : Tryz.prog.follows Departure.mixedOrders = true := by kernel_rfl
 have hsz : (Tryz.prog.info? 27).map (·.size) = some 3 := by rw [hi0]; simp [hz1]
 have hctl : cur.toList.length = cap * 3 := by rw [Array.length_toList, hcs]
 have hti : cur.toList.take (i * 3) = cellsOf JL (l.take i) := by
  rw [← cellsOf_take JK, ← htake, List.take_take, Nat.min_eq_left (by omega)]
 have hlt : (l.take i).length = i := by rw [List.length_take]; omega
 have hold : (Builtin.firstCells i0.size i (.slice (some ⟨g, 0, none⟩) i cap)).run Tryz.prog w.drew = .ok (cellsOf JL (l.take i)).toArray w.drew := by
  rw [hz1]
  refine run_firstCells_some w.drew 3 i ⟨g, 0, none⟩ i cap _ (by rw [JI JK, hlt]) (fun k u hu => ?_)
  have hk := (List.getElem?_eq_some_iff.1 hu).1
  rw [JI JK, hlt] at hk
  rw [Addr.add_lit, cell_of_row w.drew g _ cur 27 (0, 0) hg, ← Array.getElem?_toList, Nat.zero_add]
  rw [← hti, List.getElem?_take_of_lt (by omega)] at hu
  exact hu
 obtain ⟨G, hG⟩ : ∃ G, G = grownCap w (n + 1) cap 27 := ⟨_, rfl⟩
 obtain ⟨ROW, hROW⟩ : ∃ ROW : Array Value, ROW = (cellsOf JL (l.take i)).toArray ++ Builtin.zeroCells (Value.agg (JL z27).toArray).cells (n + 1 - i) ++ Builtin.zeroCells (Value.agg (JL z27).toArray).cells (G - (n + 1)) := ⟨_, rfl⟩
 have hrz : ∀ ty, (Builtin.append_ #[36, 3] ty #[.slice (some ⟨g, 0, none⟩) i cap, .int .i64 ((n : Int) + 1 - (i : Int))]).run Tryz.prog w =
   .ok (.slice (some ⟨w.heap.size, 0, none⟩) (n + 1) G) (w.drew.alloc (.cells ROW 27)) := fun ty => by
  have h := Lib.run_append_grow_zeros (P := Tryz.prog) w 36 3 ty 27 i0 _ .i64 .i64 Tryz.underlying36 Tryz.underlying3 hi0 hz0 (some ⟨g, 0, none⟩) i cap _ hold (n + 1 - i) (by omega) (by omega) (by omega) (by omega) (by rw [hz2]; omega) (by rw [hz2, show i + (n + 1 - i) = n + 1 by omega]; exact growslice_fits hroom hlen)
  rw [show i + (n + 1 - i) = n + 1 by omega, ← hG] at h
  rw [show (n : Int) + 1 - (i : Int) = ((n + 1 - i : Nat) : Int) by omega, hROW]
  exact h
 have hG3 : n + 1 ≤ G := by rw [hG]; exact grownCap_ge _ _ _ _
 have hGm : G ≤ maxLen := by rw [hG]; exact grownCap_le_maxLen _ _ _ _ (by unfold maxLen; omega)
 have hgw : g < w.heap.size := (Array.getElem?_eq_some_iff.1 hg).1
 have hvw : vb < w.heap.size := (Array.getElem?_eq_some_iff.1 hv).1
 obtain ⟨ab, hab⟩ : ∃ ab, ab = JL a := ⟨_, rfl⟩
 have habl : ab.length = 3 := by rw [hab]; rfl
 have hab1 : ∀ u ∈ ab, u.oneCell' = true := by rw [hab]; exact encVal_one _
 rw [← hab] at hv
 obtain ⟨news, hnews⟩ : ∃ news, news = cellsOf JL (l.drop i) := ⟨_, rfl⟩
 have hnl : news.length = (n - i) * 3 := by rw [hnews, JI JK, List.length_drop, hn]
 have hn1 : ∀ u ∈ news, u.oneCell' = true := by rw [hnews]; exact cellsOf_one encVal_one _
 have hzs : (Value.agg (JL z27).toArray).cells.size = 3 := rfl
 have hrs : ROW.size = G * 3 := by
  rw [hROW, Array.size_append, Array.size_append, size_zeroCells, size_zeroCells, hzs, List.size_toArray, JI JK, hlt]
  omega
 have hrl : ROW.toList.length = G * 3 := by rw [Array.length_toList, hrs]
 obtain ⟨c1, hc1⟩ : ∃ c1 : List Value, c1 = ROW.toList.take (i * 3) ++ ab ++ ROW.toList.drop (i * 3 + ab.length) := ⟨_, rfl⟩
 have hc1l : c1.length = G * 3 := by
  rw [hc1]
  simp only [List.length_append, List.length_take, List.length_drop, hrl, habl]
  omega
 have hW0 : ((w.alloc (.cells ROW 27)).drew).heap[w.heap.size]? = some (.cells ROW 27 (0, 0)) := heap_alloc_new w _
 have hW0o : ∀ k, k < w.heap.size → ((w.alloc (.cells ROW 27)).drew).heap[k]? = w.heap[k]? := fun k hk => heap_alloc_old w _ hk
 have hcpA : ∀ ty dc, (Builtin.copy_ #[36, 36] ty #[.slice (some ⟨w.heap.size, i * 3, none⟩) (n + 1 - i) dc, .slice (some ⟨vb, 0, none⟩) 1 1]).run Tryz.prog ((w.alloc (.cells ROW 27)).drew) = .ok (goInt 1) (((w.alloc (.cells ROW 27)).drew).setCells w.heap.size (i * 3) ab) := by
  intro ty dc
  have hmin : Nat.min 1 (n + 1 - i) = 1 := Nat.min_eq_left (by omega)
  have := run_copy_k (P := Tryz.prog) ((w.alloc (.cells ROW 27)).drew) 36 36 ty 27 3 w.heap.size (i * 3) (n + 1 - i) dc ⟨vb, 0, none⟩ 1 1 ab Tryz.underlying36 hsz (by rw [hmin, habl]) (fun k u hu => by
    rw [Addr.add_lit, cell_of_row _ vb _ _ 27 (0, 0) ((hW0o vb hvw).trans hv), Nat.zero_add]
    simpa using hu) (fun k hk => row_cell hW0 _ (by rw [habl] at hk; rw [hrs]; omega)) (fun k hk => row_frozen hW0 _) hab1
  rw [hmin] at this
  exact this
 have hr1 : ((w.alloc (.cells ROW 27)).drew).setCells w.heap.size (i * 3) ab = ((w.alloc (.cells ROW 27)).drew).setRow w.heap.size c1.toArray := by
  rw [hc1]; exact row_setCells Tryz.prog hW0 _ _ (by rw [hrs, habl]; omega) hab1
 have hg1 : (((w.alloc (.cells ROW 27)).drew).setCells w.heap.size (i * 3) ab).heap[w.heap.size]? = some (.cells c1.toArray 27 (0, 0)) := by
  rw [hr1]; exact setRow_heap _ _ _ _ 27 _ hW0
 have hg1o : ∀ k, k < w.heap.size → (((w.alloc (.cells ROW 27)).drew).setCells w.heap.size (i * 3) ab).heap[k]? = w.heap[k]? := fun k hk => by
  rw [hr1, setRow_other _ _ _ _ (by omega)]; exact hW0o k hk
 have hcpB : ∀ (W : World) (dl : Nat), W.heap[w.heap.size]? = some (.cells c1.toArray 27 (0, 0)) → W.heap[g]? = some (.cells cur 27 (0, 0)) → dl = n - i → ∀ ty dc sc, (Builtin.copy_ #[36, 36] ty #[.slice (some ⟨w.heap.size, (i + 1) * 3, none⟩) dl dc, .slice (some ⟨g, i * 3, none⟩) (n - i) sc]).run Tryz.prog W = .ok (goInt ((n - i : Nat) : Int)) (W.setCells w.heap.size ((i + 1) * 3) news) := by
  intro W dl hW hWg hdl ty dc sc
  have hmin : Nat.min (n - i) dl = n - i := by rw [hdl]; exact Nat.min_self _
  have := run_copy_k (P := Tryz.prog) W 36 36 ty 27 3 w.heap.size ((i + 1) * 3) dl dc ⟨g, i * 3, none⟩ (n - i) sc news Tryz.underlying36 hsz (by rw [hmin, hnl]) (fun k u hu => by
    have hk := (List.getElem?_eq_some_iff.1 hu).1
    rw [hnl] at hk
    rw [Addr.add_lit, cell_of_row W g _ cur 27 (0, 0) hWg, ← Array.getElem?_toList]
    rw [hnews, ← cellsOf_drop JK, List.getElem?_drop, ← htake, List.getElem?_take_of_lt (by omega)] at hu
    exact hu) (fun k hk => row_cell hW _ (by rw [hnl] at hk; rw [List.size_toArray, hc1l]; omega)) (fun k hk => row_frozen hW _) hn1
  rw [hmin] at this
  exact this
 have hfin : Kd.R k27 27 ((((w.alloc (.cells ROW 27)).drew).setCells w.heap.size (i * 3) ab).drew.setCells w.heap.size ((i + 1) * 3) news) base (fun _ => True) (.slice (some ⟨w.heap.size, 0, none⟩) (n + 1) G) (l.take i ++ [a] ++ l.drop i) ∧ Below base w ((((w.alloc (.cells ROW 27)).drew).setCells w.heap.size (i * 3) ab).drew.setCells w.heap.size ((i + 1) * 3) news) := by
  have hg2 : (((w.alloc (.cells ROW 27)).drew).setCells w.heap.size (i * 3) ab).drew.heap[w.heap.size]? = some (.cells c1.toArray 27 (0, 0)) := hg1
  have hr2 := row_setCells Tryz.prog hg2 ((i + 1) * 3) news (by rw [List.size_toArray, hc1l, hnl]; omega) hn1
  have hll : (l.take i ++ [a] ++ l.drop i).length = n + 1 := by rw [List.length_append, List.length_append, hlt, List.length_singleton, List.length_drop]; omega
  have hrt : ROW.toList.take (i * 3) = cellsOf JL (l.take i) := by
   rw [hROW, Array.toList_append, Array.toList_append, List.append_assoc, List.take_left']
   rw [List.toList_toArray, JI JK, hlt]
  have ht1 : c1.take ((i + 1) * 3) = cellsOf JL (l.take i) ++ ab := by
   rw [hc1, hrt, List.take_left']
   rw [List.length_append, JI JK, hlt, habl]; omega
  refine ⟨makeVal (fun _ _ => trivial) ⟨JI JK _, .inr ⟨w.heap.size, G, _, by rw [hll], hbase, by rw [hr2]; exact setRow_heap _ _ _ _ 27 _ hg2, by rw [hll]; exact hG3, hGm, ?_, ?_⟩⟩, ?_⟩
  ·
   simp only [List.size_toArray, List.toList_toArray, List.length_append, List.length_take, List.length_drop, hc1l, hnl]
   omega
  ·
   rw [hll, List.toList_toArray, List.toList_toArray, ht1, cellsOf_append, cellsOf_append, ← hnews]
   have hab2 : cellsOf JL [a] = ab := by rw [hab]; simp [cellsOf]
   rw [hab2, List.take_left']
   rw [List.length_append, List.length_append, JI JK, hlt, habl, hnl]
   omega
  ·
   rw [hr2]
   refine ⟨by rw [hr1]; rfl, by rw [hr1]; rfl, by rw [hr1]; rfl, ?_, fun k hk => by rw [setRow_other _ _ _ _ (by omega)]; exact hg1o k (by omega)⟩
   rw [setRow_size, hr1]
   show _ ≤ (((w.alloc (.cells ROW 27)).drew).setRow w.heap.size c1.toArray).heap.size
   rw [setRow_size]
   exact Nat.le_of_lt (Array.getElem?_eq_some_iff.1 hW0).1
 have HFIN := JN hfin
 have HCPB := JN hcpB
 have HG1 := JN hg1
 have HG1O := JN hg1o
 have HGG := JN hg
 have HRZ := JN hrz
 have hin : ¬ (i = n) := by omega
 have hin' : i ≤ n := by omega
 have hic : i ≤ cap := by omega
 have hcm' : cap ≤ 9223372036854775807 := by omega
 have hGm' : G ≤ 9223372036854775807 := by unfold maxLen at hGm; omega
 have hw1 : IntKind.i64.wrap ((n : Int) + 1) = (n : Int) + 1 := by rw [IntKind.wrap_i64]; omega
 have hw2 : IntKind.i64.wrap ((i : Int) + 1) = (i : Int) + 1 := by rw [IntKind.wrap_i64]; omega
 have hw3 : IntKind.i64.wrap ((n : Int) + 1 - (i : Int)) = (n : Int) + 1 - (i : Int) := by rw [IntKind.wrap_i64]; omega
 have hb0 : (cap : Int) < (n : Int) + 1 := by omega
 have hb1 : (0 : Int) ≤ (i : Int) + 1 := by omega
 have htn : ((i : Int) + 1).toNat = i + 1 := by omega
 have hb3 : (i : Int) + 1 ≤ (n : Int) + 1 := by omega
 have hb4 : (i : Int) ≤ (n : Int) + 1 := by omega
 have hb5 : ¬ (G = i + 1) := by omega
 have hb6 : ¬ (cap = i) := by omega
 have hb7 : ¬ (G = i) := by omega
 clear hfin hcpB hg1 hg1o hg hrz hold hG hROW hv htake hcs hn hr1 hc1 hc1l hnews hnl hn1 hctl hti hab habl hab1 hrs hrl hW0 hW0o hlt hzs
 go_enter Tryz.func121, Tryz.ntmps121
 go_wp2_with (at_builtin; refine Lib.wpList_append_run _ rfl _ _ _ _ rfl _ _ rfl rfl _ _ (HRZ.out _) ?_)
 go_region_law_o (refine step_copy_runI rfl _ _ 36 36 rfl (.slice (some ⟨w.heap.size, (i + 1) * 3, none⟩) (n - i) (G - (i + 1))) (.slice (some ⟨g, i * 3, none⟩) (n - i) (cap - i)) (Je) (Je) (HCPB.out _ _ (by exact HG1.out) (by exact (HG1O.out g hgw).trans HGG.out) rfl _ _ _) ?_)
 go_wp2
 go_ret
 exact ⟨_, rfl, HFIN.out.1, HFIN.out.2⟩
theorem insert1Val (x : Int) (v : Value) (l : List S27) (base : Nat) (w : World) (ho : Kd.R k27 27 w base (fun _ => True) v l) (h0 : 0 ≤ x) (h1 : x ≤ l.length) (hp : 0 < l.length) (vb : Nat) (a : S27) (hv : w.heap[vb]? = some (.cells (JL a).toArray 27 (0, 0))) (hne : some vb ≠ v.ownBlock) (hlen : (l.length + 1) * 32 ≤ 140737488355328) (hbase : base ≤ w.heap.size) :
  Calls Tryz.prog 121 #[v, .int .i64 x, .slice (some ⟨vb, 0, none⟩) 1 1] w fun e w' => ∃ v0_ : Value, e = .returned v0_ ∧ Kd.R k27 27 w' base (fun _ => True) v0_ (l.take x.toNat ++ [a] ++ l.drop x.toNat) ∧ Below base w w' := by
 obtain ⟨hok, hown⟩ := openVal ho
 obtain ⟨g, cap, cur, rfl, hbg, hg, hnc, hcm, hcs, htake⟩ := own_open hown hp
 obtain ⟨i, rfl⟩ : ∃ i : Nat, x = i := ⟨x.toNat, by omega⟩
 rw [Int.toNat_natCast]
 have hne' : vb ≠ g := fun e => hne (by rw [e]; rfl)
 by_cases he : i = l.length
 ·
  have := insert1EndVal i g cap cur l base w hbg hg he (by omega) hcm hcs (by rw [he]; exact htake) vb a hv (by rw [he]; exact hlen) hbase
  rw [← he, List.take_of_length_le (by omega), List.drop_of_length_le (by omega), List.append_nil]
  exact this
 ·
  by_cases hr : l.length + 1 ≤ cap
  ·
   exact insert1RoomVal i l.length g cap cur l base w hbg hg rfl hr hcm hcs htake (by omega) vb a hv hne'
  ·
   exact insert1GrowVal i l.length g cap cur l base w hbg hg rfl hnc (by omega) hcs htake (by omega) vb a hv hlen hbase
theorem insert_val2 (w w1 W : World) (i : Int) (v : Value) (row : List Val) (h1w : Below w.heap.size w w1) (hlt : w.heap.size < w1.heap.size) (hv : Kd.R k27 27 w1 (w.heap.size + 1) (fun _ => True) v row) (h2w : Below w1.heap.size w1 W) (h0 : 0 ≤ i) (h1 : i ≤ row.length) (hp : 0 < row.length) (a : Val) (b : Nat) (hb : b = W.heap.size) (hn : row.length ≤ 1000) :
  Calls Tryz.prog 121 #[v, .int .i64 i, .slice (some ⟨b, 0, none⟩) 1 1] (W.alloc (.cells #[.int .i64 a.f0, .int .i64 a.f1, .string a.f2] 27)) fun e w' => ∃ v1 : Value, e = .returned v1 ∧ Kd.R k27 27 w' w.heap.size (fun _ => True) v1 (row.take i.toNat ++ [a] ++ row.drop i.toNat) ∧ Below w.heap.size w w' := by
 subst hb
 have hs := h2w.size
 have hvW := Kd.R_below hv h2w
 have hlt2 : ∀ g, v.ownBlock = some g → g < W.heap.size := fun g h => ((openVal hvW).2.lt g h).2
 refine (insert1Val i v row (w.heap.size + 1) (W.alloc (.cells #[.int .i64 a.f0, .int .i64 a.f1, .string a.f2] 27)) (Kd.R_below hvW (JD (Below.refl _ _) _)) h0 h1 hp W.heap.size a (heap_alloc_new W _) (fun h => Nat.lt_irrefl _ (hlt2 _ h.symm)) (by omega) (Jc)).mono ?_
 rintro e w' ⟨v1, he, hr, hb⟩
 exact ⟨v1, he, Kd.R_lower hr (by omega), (JD (h1w.trans (h2w.mono (by omega))) _).trans (hb.mono (by omega))⟩
theorem rep1_val2 (w w1 W : World) (i j : Int) (v : Value) (row : List Val) (h1w : Below w.heap.size w w1) (hlt : w.heap.size < w1.heap.size) (hv : Kd.R k27 27 w1 (w.heap.size + 1) (fun _ => True) v row) (h2w : Below w1.heap.size w1 W) (h0 : 0 ≤ i) (h1 : i + 1 < row.length) (hj : j = i + 2) (a : Val) (b : Nat) (hb : b = W.heap.size) (hn : row.length ≤ 1000) :
  Calls Tryz.prog 107 #[v, .int .i64 i, .int .i64 j, .slice (some ⟨b, 0, none⟩) 1 1] (W.alloc (.cells #[.int .i64 a.f0, .int .i64 a.f1, .string a.f2] 27)) fun e w' => ∃ v1 : Value, e = .returned v1 ∧ Kd.R k27 27 w' w.heap.size (fun _ => True) v1 (row.take i.toNat ++ [a] ++ row.drop (i.toNat + 2)) ∧ Below w.heap.size w w' := by
 subst hb
 have hs := h2w.size
 have hvW := Kd.R_below hv h2w
 refine (replace1Val i j v row (w.heap.size + 1) (W.alloc (.cells #[.int .i64 a.f0, .int .i64 a.f1, .string a.f2] 27)) (Kd.R_below hvW (JD (Below.refl _ _) _)) h0 h1 hj W.heap.size a (heap_alloc_new W _)).mono ?_
 rintro e w' ⟨v1, he, hr, hb⟩
 exact ⟨v1, he, Kd.R_lower hr (by omega), (JD (h1w.trans (h2w.mono (by omega))) _).trans (hb.mono (by omega))⟩
theorem lastVal {W : World} {base g n cap : Nat} {l : List Val} (h : Kd.R k27 27 W base (fun _ => True) (.slice (some ⟨g, 0, none⟩) n cap) l) (hn : n = l.length) (h0 : 0 < n) (m : Nat) (hm : m + 1 = n) : Kd.R k27 27 W base (fun _ => True) (.slice (some ⟨g, 0, none⟩) m cap) l.dropLast := by
 subst hn
 obtain ⟨hok, hown⟩ := openVal h
 obtain ⟨g', cap', cur, e, hbg, hg, hnc, hcm, hcs, htake⟩ := own_open hown h0
 injection e with e1 e2 e3
 injection e1 with e1
 injection e1 with e1
 subst e1
 subst e3
 refine makeVal (fun _ _ => trivial) ⟨JI JK _, .inr ⟨g, cap, cur, ?_, hbg, hg, ?_, hcm, hcs, ?_⟩⟩
 ·
  rw [List.length_dropLast, ← hm, Nat.add_sub_cancel]
 ·
  rw [List.length_dropLast]; omega
 ·
  rw [List.dropLast_eq_take, ← cellsOf_take JK, ← htake, List.take_take, List.length_take, Nat.min_eq_left (by omega), Nat.min_eq_left (by omega)]
theorem bl_drewN {B : Nat} {w W : World} (h : Below B w W) (n : Nat) : Below B w (W.drewN n) := pw_below_drewN h n
theorem bwd_same (op : Int) (A B C S : ByteArray) (N k m : Int) (s : ByteArray) (A0 : Option Addr) (c0 : Nat) (cols : List Col) (A1 : Option Addr) (c1 : Nat) (row : List Val) (w : World) (hr0 : Kd.C k53 w A0 cols.length cols) (hc0 : cols.length ≤ c0) (hr1 : Kd.C k27 w A1 row.length row) (hc1 : row.length ≤ c1) (hn : row.length ≤ 1000) (hG : Good w) (hop : op = 2) (i : Int) (hi : JC cols A 0 = i) :
  Calls Tryz.prog 65 #[.agg #[.int .i64 op, .string A, .string B, .string C, .string S, .int .i64 N, .int .i64 k, .int .i64 m, .string s], .slice A0 cols.length c0, .slice A1 row.length c1] w (RowR row w) := by
 obtain rfl : op = 2 := hop
 have HR := JN hr0
 have HRW := JN hr1
 have HG := JN hG
 have hlen1 : row.length ≤ 9223372036854775807 := by omega
 clear hr0 hG
 have HB0 : Jv (∀ o, Below w.heap.size w (w.alloc o)) := ⟨fun o => JD (Below.refl w.heap.size w) o⟩
 have BX0 : Jv (∀ o, (w.alloc o).heap[w.heap.size]? = some o) := ⟨fun o => heap_alloc_new w o⟩
 have HCL : Jv (api_Value.f row = some row) := ⟨KO⟩
 have HF : Jv (shape_Find.f cols A = some i) := ⟨KF⟩
 clear hi
 have hu1 := Tryz.underlying29
 have hu2 := Tryz.underlying53
 have hu3 := Tryz.underlying27
 clear hr1
 go_enter Tryz.func65, Tryz.ntmps65
 go_wp2_with (first
  | (go_at_call 45; refine (shape_Find.calls _ _ _ _ _ _ (Kd.C_below HR.out (HB0.out _)) hc0 HF.out).mono ?_; rintro e w1 ⟨rfl, hb⟩; obtain ⟨hc, hf⟩ := bcell2 hb; have hz : w.heap.size < w1.heap.size := by { have h_ := hb.size; (try simp at h_); omega }; have BX := JN (JJ (BX0.out (.cells #[.int .i64 2, .string A, .string B, .string C, .string S, .int .i64 N, .int .i64 k, .int .i64 m, .string s] 29 (0, 0))) hb); have HB := JN (JA (HB0.out _) (HB0.out _).size hb); clear hb)
  | (go_at_call 58; refine (api_Value.calls _ _ _ _ _ (Kd.C_below HRW.out HB.out) hc1 HCL.out).mono ?_; rintro e w1 ⟨v0, rfl, hv, hb⟩; obtain ⟨hc, hf⟩ := bcell2 hb; have hz : w.heap.size < w1.heap.size := by { have h_ := hb.size; (try simp at h_); omega }; have HV : Jv (Kd.R k27 27 w1 (w.heap.size + 1) (fun _ => True) v0 row) := ⟨Kd.R_lower hv (by omega)⟩; clear hv; have BX' := JN (JJ BX.out hb); clear BX; have BX := BX'; clear BX'; have HB' := JN (JA HB.out HB.out.size hb); clear HB; have HB := HB'; clear HB' hb))
 go_ret
 exact ⟨_, rfl, Kd.R_lower HV.out (by omega), HB.out⟩
theorem bwd_add (op : Int) (A B C S : ByteArray) (N k m : Int) (s : ByteArray) (A0 : Option Addr) (c0 : Nat) (cols : List Col) (A1 : Option Addr) (c1 : Nat) (row : List Val) (w : World) (hr0 : Kd.C k53 w A0 cols.length cols) (hc0 : cols.length ≤ c0) (hr1 : Kd.C k27 w A1 row.length row) (hc1 : row.length ≤ c1) (hn : row.length ≤ 1000) (hG : Good w) (hop : op = 0) (i : Int) (hi : JC cols A 0 = i) (hp : 0 < row.length) :
  Calls Tryz.prog 65 #[.agg #[.int .i64 op, .string A, .string B, .string C, .string S, .int .i64 N, .int .i64 k, .int .i64 m, .string s], .slice A0 cols.length c0, .slice A1 row.length c1] w (RowR row.dropLast w) := by
 obtain rfl : op = 0 := hop
 have HR := JN hr0
 have HRW := JN hr1
 have HG := JN hG
 have hlen1 : row.length ≤ 9223372036854775807 := by omega
 clear hr0 hG
 have HB0 : Jv (∀ o, Below w.heap.size w (w.alloc o)) := ⟨fun o => JD (Below.refl w.heap.size w) o⟩
 have BX0 : Jv (∀ o, (w.alloc o).heap[w.heap.size]? = some o) := ⟨fun o => heap_alloc_new w o⟩
 have HCL : Jv (api_Value.f row = some row) := ⟨KO⟩
 have HF : Jv (shape_Find.f cols A = some i) := ⟨KF⟩
 clear hi
 have hu1 := Tryz.underlying29
 have hu2 := Tryz.underlying53
 have hu3 := Tryz.underlying27
 obtain ⟨mm, hmm⟩ : ∃ mm, mm + 1 = row.length := ⟨row.length - 1, by omega⟩
 have HMM := JN hmm
 have s1 : IntKind.i64.wrap ((row.length : Int) - 1) = (mm : Int) := by rw [IntKind.wrap_i64]; omega
 have s2 : (row.length : Int) - 1 = (mm : Int) := by omega
 have s3 : mm ≤ row.length := by omega
 clear hmm
 clear hr1
 go_enter Tryz.func65, Tryz.ntmps65
 go_wp2_with (first
  | (go_at_call 45; refine (shape_Find.calls _ _ _ _ _ _ (Kd.C_below HR.out (HB0.out _)) hc0 HF.out).mono ?_; rintro e w1 ⟨rfl, hb⟩; obtain ⟨hc, hf⟩ := bcell2 hb; have hz : w.heap.size < w1.heap.size := by { have h_ := hb.size; (try simp at h_); omega }; have BX := JN (JJ (BX0.out (.cells #[.int .i64 0, .string A, .string B, .string C, .string S, .int .i64 N, .int .i64 k, .int .i64 m, .string s] 29 (0, 0))) hb); have HB := JN (JA (HB0.out _) (HB0.out _).size hb); clear hb)
  | (go_at_call 58; refine (api_Value.calls _ _ _ _ _ (Kd.C_below HRW.out HB.out) hc1 HCL.out).mono ?_; rintro e w1 ⟨v0, rfl, hv, hb⟩; obtain ⟨hc, hf⟩ := bcell2 hb; have hz : w.heap.size < w1.heap.size := by { have h_ := hb.size; (try simp at h_); omega }; have HV : Jv (Kd.R k27 27 w1 (w.heap.size + 1) (fun _ => True) v0 row) := ⟨Kd.R_lower hv (by omega)⟩; clear hv; have BX' := JN (JJ BX.out hb); clear BX; have BX := BX'; clear BX'; have HB' := JN (JA HB.out HB.out.size hb); clear HB; have HB := HB'; clear HB' hb; obtain ⟨g, cap, rfl, hg0, hg1, hg2⟩ := ownVal HV.out hp; have s4 : mm ≤ cap := (by omega); have s5 : (mm : Int) ≤ cap := (by omega)))
 go_ret
 exact ⟨.slice (some ⟨g, 0, none⟩) mm cap, rfl, Kd.R_lower (lastVal HV.out rfl hp mm HMM.out) (by omega), HB.out⟩
theorem bwd_drop (op : Int) (A B C S : ByteArray) (N k m : Int) (s : ByteArray) (A0 : Option Addr) (c0 : Nat) (cols : List Col) (A1 : Option Addr) (c1 : Nat) (row : List Val) (w : World) (hr0 : Kd.C k53 w A0 cols.length cols) (hc0 : cols.length ≤ c0) (hr1 : Kd.C k27 w A1 row.length row) (hc1 : row.length ≤ c1) (hn : row.length ≤ 1000) (hG : Good w) (hop : op = 1) (i : Int) (hi : JC cols A 0 = i) (hi0 : 0 ≤ i) (hi1 : i ≤ row.length) (hp : 0 < row.length) :
  Calls Tryz.prog 65 #[.agg #[.int .i64 op, .string A, .string B, .string C, .string S, .int .i64 N, .int .i64 k, .int .i64 m, .string s], .slice A0 cols.length c0, .slice A1 row.length c1] w (RowR (row.take i.toNat ++ [⟨k, m, s⟩] ++ row.drop i.toNat) w) := by
 obtain rfl : op = 1 := hop
 have HR := JN hr0
 have HRW := JN hr1
 have HG := JN hG
 have hlen1 : row.length ≤ 9223372036854775807 := by omega
 clear hr0 hG
 have HB0 : Jv (∀ o, Below w.heap.size w (w.alloc o)) := ⟨fun o => JD (Below.refl w.heap.size w) o⟩
 have BX0 : Jv (∀ o, (w.alloc o).heap[w.heap.size]? = some o) := ⟨fun o => heap_alloc_new w o⟩
 have HCL : Jv (api_Value.f row = some row) := ⟨KO⟩
 have HF : Jv (shape_Find.f cols A = some i) := ⟨KF⟩
 clear hi
 have hu1 := Tryz.underlying29
 have hu2 := Tryz.underlying53
 have hu3 := Tryz.underlying27
 clear hr1
 go_enter Tryz.func65, Tryz.ntmps65
 go_wp2_with (first
  | (go_at_call 45; refine (shape_Find.calls _ _ _ _ _ _ (Kd.C_below HR.out (HB0.out _)) hc0 HF.out).mono ?_; rintro e w1 ⟨rfl, hb⟩; obtain ⟨hc, hf⟩ := bcell2 hb; have hz : w.heap.size < w1.heap.size := by { have h_ := hb.size; (try simp at h_); omega }; have BX := JN (JJ (BX0.out (.cells #[.int .i64 1, .string A, .string B, .string C, .string S, .int .i64 N, .int .i64 k, .int .i64 m, .string s] 29 (0, 0))) hb); have HB := JN (JA (HB0.out _) (HB0.out _).size hb); clear hb)
  | (go_at_call 58; refine (api_Value.calls _ _ _ _ _ (Kd.C_below HRW.out HB.out) hc1 HCL.out).mono ?_; rintro e w1 ⟨v0, rfl, hv, hb⟩; obtain ⟨hc, hf⟩ := bcell2 hb; have hz : w.heap.size < w1.heap.size := by { have h_ := hb.size; (try simp at h_); omega }; have HV : Jv (Kd.R k27 27 w1 (w.heap.size + 1) (fun _ => True) v0 row) := ⟨Kd.R_lower hv (by omega)⟩; clear hv; have BX' := JN (JJ BX.out hb); clear BX; have BX := BX'; clear BX'; have HB' := JN (JA HB.out HB.out.size hb); clear HB; have HB := HB'; clear HB' hb)
  | (go_at_call 121; refine (insert_val2 w w1 w1 _ _ _ HB.out (by omega) HV.out (Below.refl _ _) hi0 hi1 hp ⟨k, m, s⟩ _ (by simp) (by omega)).mono ?_; rintro e w3 ⟨v1, rfl, hv, hb⟩; have HV3 := JN hv; have HB3 := JN hb; clear hv hb))
 go_ret
 exact ⟨_, rfl, HV3.out, HB3.out⟩
theorem bwd_scale (op : Int) (A B C S : ByteArray) (N k m : Int) (s : ByteArray) (A0 : Option Addr) (c0 : Nat) (cols : List Col) (A1 : Option Addr) (c1 : Nat) (row : List Val) (w : World) (hr0 : Kd.C k53 w A0 cols.length cols) (hc0 : cols.length ≤ c0) (hr1 : Kd.C k27 w A1 row.length row) (hc1 : row.length ≤ c1) (hn : row.length ≤ 1000) (hG : Good w) (hop : op = 6) (i : Int) (hi : JC cols A 0 = i) (hi0 : 0 ≤ i) (hi1 : i < row.length) (hN : N ≠ 0) :
  Calls Tryz.prog 65 #[.agg #[.int .i64 op, .string A, .string B, .string C, .string S, .int .i64 N, .int .i64 k, .int .i64 m, .string s], .slice A0 cols.length c0, .slice A1 row.length c1] w (RowR (row.set i.toNat ⟨0, IntKind.i64.wrap ((rdV row i).f1.tdiv N), ⟨#[]⟩⟩) w) := by
 obtain rfl : op = 6 := hop
 have HR := JN hr0
 have HRW := JN hr1
 have HG := JN hG
 have hlen1 : row.length ≤ 9223372036854775807 := by omega
 clear hr0 hG
 have HB0 : Jv (∀ o, Below w.heap.size w (w.alloc o)) := ⟨fun o => JD (Below.refl w.heap.size w) o⟩
 have BX0 : Jv (∀ o, (w.alloc o).heap[w.heap.size]? = some o) := ⟨fun o => heap_alloc_new w o⟩
 have HCL : Jv (api_Value.f row = some row) := ⟨KO⟩
 have HF : Jv (shape_Find.f cols A = some i) := ⟨KF⟩
 clear hi
 have hu1 := Tryz.underlying29
 have hu2 := Tryz.underlying53
 have hu3 := Tryz.underlying27
 obtain ⟨ad, e, h0, h1, h2⟩ := at_T27 hr1 i hi0 hi1
 cases e
 have HX0 := JN h0
 have HX1 := JN h1
 have HX2 := JN h2
 have p := eq_true hi0
 have q := eq_true hi1
 clear h0 h1 h2
 clear hr1
 go_enter Tryz.func65, Tryz.ntmps65
 go_wp2_with (first
  | (go_at_call 45; refine (shape_Find.calls _ _ _ _ _ _ (Kd.C_below HR.out (HB0.out _)) hc0 HF.out).mono ?_; rintro e w1 ⟨rfl, hb⟩; obtain ⟨hc, hf⟩ := bcell2 hb; have hz : w.heap.size < w1.heap.size := by { have h_ := hb.size; (try simp at h_); omega }; have BX := JN (JJ (BX0.out (.cells #[.int .i64 6, .string A, .string B, .string C, .string S, .int .i64 N, .int .i64 k, .int .i64 m, .string s] 29 (0, 0))) hb); have HB := JN (JA (HB0.out _) (HB0.out _).size hb); clear hb)
  | (go_at_call 58; refine (api_Value.calls _ _ _ _ _ (Kd.C_below HRW.out HB.out) hc1 HCL.out).mono ?_; rintro e w1 ⟨v0, rfl, hv, hb⟩; obtain ⟨hc, hf⟩ := bcell2 hb; have hz : w.heap.size < w1.heap.size := by { have h_ := hb.size; (try simp at h_); omega }; have HV : Jv (Kd.R k27 27 w1 (w.heap.size + 1) (fun _ => True) v0 row) := ⟨Kd.R_lower hv (by omega)⟩; clear hv; have BX' := JN (JJ BX.out hb); clear BX; have BX := BX'; clear BX'; have HB' := JN (JA HB.out HB.out.size hb); clear HB; have HB := HB'; clear HB' hb; obtain ⟨g, cap, rfl, hg0, hg1, hg2⟩ := ownVal HV.out (by omega)))
 have hN0 : (N == 0) = false := beq_eq_false_iff_ne.mpr hN
 have hx1 := (HB.out.cell (JO w _ HX1.out)).trans HX1.out
 have hne : (ad.add (i.toNat * 3)).block ≠ g := by have := JO w _ HX1.out; (try simp only at this); omega
 have hgn : w.heap.size ≠ g := by omega
 have bx5 : w1.cell? ⟨w.heap.size, 5, none⟩ = some (.int .i64 N) := (Jw BX.out 5).trans rfl
 go_region_held3 (fun w' => w'.cell? ⟨(ad.add (i.toNat * 3)).block, (ad.add (i.toNat * 3)).off + 1, none⟩ = some (.int .i64 (rdV row i).f1) ∧ w'.cell? ⟨w.heap.size, 5, none⟩ = some (.int .i64 N)) (first | exact ⟨hx1, bx5⟩ | exact ⟨yhx1, ybx5⟩ | exact ⟨(far3c (a := ⟨_, _, none⟩) hne _ _ _ _ _ _).trans yhx1, (far3c (a := ⟨_, _, none⟩) hgn _ _ _ _ _ _).trans ybx5⟩) (first | (go_at_call 110; refine (value_Int.calls _ _ _ _ _ rfl).mono ?_; rintro e w2 ⟨rfl, hb⟩; have BX2 := JN (JJ (Js) hb); have HB2 := JN (Below.trans (Jb) (hb.mono (show w.heap.size ≤ _ by simp; omega))); have yhx1 := (HB2.out.cell (JO w _ HX1.out)).trans HX1.out; have ybx5 : w2.cell? ⟨w.heap.size, 5, none⟩ = some (.int .i64 N) := (Jw BX2.out 5).trans rfl; have HV2 := JN (Kd.R_below (Kd.R_drew HV.out) hb); have hq := getVal HV2.out rfl i hi0 hi1 0 (by omega); have hr0 : w2.cell? ⟨g, i.toNat * 3, none⟩ = some (.int .i64 (rdV row i).f0) := hq.1; have hs0 : w2.frozen? ⟨g, i.toNat * 3, none⟩ = false := hq.2; clear hq; have hq := getVal HV2.out rfl i hi0 hi1 1 (by omega); have hr1 : w2.cell? ⟨g, i.toNat * 3 + 1, none⟩ = some (.int .i64 (rdV row i).f1) := hq.1; have hs1 : w2.frozen? ⟨g, i.toNat * 3 + 1, none⟩ = false := hq.2; clear hq; have hq := getVal HV2.out rfl i hi0 hi1 2 (by omega); have hr2 : w2.cell? ⟨g, i.toNat * 3 + 2, none⟩ = some (.string (rdV row i).f2) := hq.1; have hs2 : w2.frozen? ⟨g, i.toNat * 3 + 2, none⟩ = false := hq.2; clear hq; clear hb))
 try go_wp2
 go_ret
 exact ⟨.slice (some ⟨g, 0, none⟩) row.length cap, rfl, Kd.R_lower (put3Val HV2.out rfl i hi0 hi1 _ _ _) (show w.heap.size ≤ w.heap.size + 1 by omega), below3r HB2.out (show w.heap.size ≤ g by omega) _ _ _ _ _ _⟩
theorem bwd_split0 (op : Int) (A B C S : ByteArray) (N k m : Int) (s : ByteArray) (A0 : Option Addr) (c0 : Nat) (cols : List Col) (A1 : Option Addr) (c1 : Nat) (row : List Val) (w : World) (hr0 : Kd.C k53 w A0 cols.length cols) (hc0 : cols.length ≤ c0) (hr1 : Kd.C k27 w A1 row.length row) (hc1 : row.length ≤ c1) (hn : row.length ≤ 1000) (hG : Good w) (hop : op = 3) (i : Int) (hi : JC cols A 0 = i) (hi0 : 0 ≤ i) (hi2 : i + 1 < row.length) (hv2 : (rdV row i).f2.size ≤ 1000000) (hv3 : (rdV row (i + 1)).f2.size ≤ 1000000) (hsep : S.size ≤ 1000000) (hem : ((rdV row (i + 1)).f2.toList = ([] : List UInt8)) = True) :
  Calls Tryz.prog 65 #[.agg #[.int .i64 op, .string A, .string B, .string C, .string S, .int .i64 N, .int .i64 k, .int .i64 m, .string s], .slice A0 cols.length c0, .slice A1 row.length c1] w (RowR (row.take i.toNat ++ [cutV (rdV row i).f2] ++ row.drop (i.toNat + 2)) w) := by
 obtain rfl : op = 3 := hop
 have HR := JN hr0
 have HRW := JN hr1
 have HG := JN hG
 have hlen1 : row.length ≤ 9223372036854775807 := by omega
 clear hr0 hG
 have HB0 : Jv (∀ o, Below w.heap.size w (w.alloc o)) := ⟨fun o => JD (Below.refl w.heap.size w) o⟩
 have BX0 : Jv (∀ o, (w.alloc o).heap[w.heap.size]? = some o) := ⟨fun o => heap_alloc_new w o⟩
 have HCL : Jv (api_Value.f row = some row) := ⟨KO⟩
 have HF : Jv (shape_Find.f cols A = some i) := ⟨KF⟩
 clear hi
 have hu1 := Tryz.underlying29
 have hu2 := Tryz.underlying53
 have hu3 := Tryz.underlying27
 have hi1 : i < row.length := by omega
 have hk0 : 0 ≤ i + 1 := by omega
 have hk1 : i + 1 < (row.length : Int) := by omega
 obtain ⟨ad, e, h0, h1, h2⟩ := at_T27 hr1 i hi0 hi1
 cases e
 have HX0 := JN h0
 have HX1 := JN h1
 have HX2 := JN h2
 clear h0 h1 h2
 obtain ⟨ad', e, j0, j1, j2⟩ := at_T27 hr1 (i + 1) hk0 hk1
 cases e
 have JX2 := JN j2
 clear j0 j1 j2
 have p := eq_true hi0
 have q := eq_true hi1
 have p1 := eq_true hk0
 have q1 := eq_true hk1
 have hem0 : ((rdV row (i + 1)).f2.toList == ([] : List UInt8)) = true := beq_iff_eq.mpr (of_eq_true hem)
 have hem2 : ((rdV row (i + 1)).f2.toList != ([] : List UInt8)) = false := by simp only [bne, hem0]; rfl
 clear hem hv2 hv3 hsep
 clear hr1
 go_enter Tryz.func65, Tryz.ntmps65
 go_wp2_with (first
  | (go_at_call 45; refine (shape_Find.calls _ _ _ _ _ _ (Kd.C_below HR.out (HB0.out _)) hc0 HF.out).mono ?_; rintro e w1 ⟨rfl, hb⟩; obtain ⟨hc, hf⟩ := bcell2 hb; have hz : w.heap.size < w1.heap.size := by { have h_ := hb.size; (try simp at h_); omega }; have BX := JN (JJ (BX0.out (.cells #[.int .i64 3, .string A, .string B, .string C, .string S, .int .i64 N, .int .i64 k, .int .i64 m, .string s] 29 (0, 0))) hb); have HB := JN (JA (HB0.out _) (HB0.out _).size hb); clear hb)
  | (go_at_call 58; refine (api_Value.calls _ _ _ _ _ (Kd.C_below HRW.out HB.out) hc1 HCL.out).mono ?_; rintro e w1 ⟨v0, rfl, hv, hb⟩; obtain ⟨hc, hf⟩ := bcell2 hb; have hz : w.heap.size < w1.heap.size := by { have h_ := hb.size; (try simp at h_); omega }; have HV : Jv (Kd.R k27 27 w1 (w.heap.size + 1) (fun _ => True) v0 row) := ⟨Kd.R_lower hv (by omega)⟩; clear hv; have BX' := JN (JJ BX.out hb); clear BX; have BX := BX'; clear BX'; have HB' := JN (JA HB.out HB.out.size hb); clear HB; have HB := HB'; clear HB' hb; obtain ⟨g, cap, rfl, hg0, hg1, hg2⟩ := ownVal HV.out (by omega); have hx2 := (HB.out.cell (JO w _ HX2.out)).trans HX2.out; have jx2 := (HB.out.cell (JO w _ JX2.out)).trans JX2.out)
  | (go_at_call 108; refine (cut_calls _ _).mono ?_; rintro e w2 ⟨rfl, hb⟩; have HL2 : Jv (Below w1.heap.size w1 w2) := ⟨hb⟩; have hl2 : w1.heap.size ≤ w2.heap.size := HL2.out.size; clear hb)
  | (go_at_call 107; refine (rep1_val2 w w1 _ _ _ _ _ HB.out (by omega) HV.out ?hbl hi0 hi2 (by omega) (cutV (rdV row i).f2) _ (by simp) (by omega)).mono ?_; (case hbl => repeat (first | (with_reducible exact HL2.out) | (with_reducible exact Below.refl _ _) | (with_reducible refine bl_alloc ?_ ?_ _) | (with_reducible refine bl_set ?_ ?_ _) | omega | (simp; omega))); rintro e w3 ⟨v1, rfl, hv, hb⟩; have HV3 := JN hv; have HB3 := JN hb; clear hv hb))
 go_ret
 exact ⟨_, rfl, HV3.out, HB3.out⟩
theorem bwd_split1 (op : Int) (A B C S : ByteArray) (N k m : Int) (s : ByteArray) (A0 : Option Addr) (c0 : Nat) (cols : List Col) (A1 : Option Addr) (c1 : Nat) (row : List Val) (w : World) (hr0 : Kd.C k53 w A0 cols.length cols) (hc0 : cols.length ≤ c0) (hr1 : Kd.C k27 w A1 row.length row) (hc1 : row.length ≤ c1) (hn : row.length ≤ 1000) (hG : Good w) (hop : op = 3) (i : Int) (hi : JC cols A 0 = i) (hi0 : 0 ≤ i) (hi2 : i + 1 < row.length) (hv2 : (rdV row i).f2.size ≤ 1000000) (hv3 : (rdV row (i + 1)).f2.size ≤ 1000000) (hsep : S.size ≤ 1000000) (hem : ((rdV row (i + 1)).f2.toList = ([] : List UInt8)) = False) :
  Calls Tryz.prog 65 #[.agg #[.int .i64 op, .string A, .string B, .string C, .string S, .int .i64 N, .int .i64 k, .int .i64 m, .string s], .slice A0 cols.length c0, .slice A1 row.length c1] w (RowR (row.take i.toNat ++ [cutV ((rdV row i).f2 ++ (S ++ (rdV row (i + 1)).f2))] ++ row.drop (i.toNat + 2)) w) := by
 obtain rfl : op = 3 := hop
 have HR := JN hr0
 have HRW := JN hr1
 have HG := JN hG
 have hlen1 : row.length ≤ 9223372036854775807 := by omega
 clear hr0 hG
 have HB0 : Jv (∀ o, Below w.heap.size w (w.alloc o)) := ⟨fun o => JD (Below.refl w.heap.size w) o⟩
 have BX0 : Jv (∀ o, (w.alloc o).heap[w.heap.size]? = some o) := ⟨fun o => heap_alloc_new w o⟩
 have HCL : Jv (api_Value.f row = some row) := ⟨KO⟩
 have HF : Jv (shape_Find.f cols A = some i) := ⟨KF⟩
 clear hi
 have hu1 := Tryz.underlying29
 have hu2 := Tryz.underlying53
 have hu3 := Tryz.underlying27
 have hi1 : i < row.length := by omega
 have hk0 : 0 ≤ i + 1 := by omega
 have hk1 : i + 1 < (row.length : Int) := by omega
 obtain ⟨ad, e, h0, h1, h2⟩ := at_T27 hr1 i hi0 hi1
 cases e
 have HX0 := JN h0
 have HX1 := JN h1
 have HX2 := JN h2
 clear h0 h1 h2
 obtain ⟨ad', e, j0, j1, j2⟩ := at_T27 hr1 (i + 1) hk0 hk1
 cases e
 have JX2 := JN j2
 clear j0 j1 j2
 have p := eq_true hi0
 have q := eq_true hi1
 have p1 := eq_true hk0
 have q1 := eq_true hk1
 have hem0 : ((rdV row (i + 1)).f2.toList == ([] : List UInt8)) = false := beq_eq_false_iff_ne.mpr (of_eq_false hem)
 have hem2 : ((rdV row (i + 1)).f2.toList != ([] : List UInt8)) = true := by simp only [bne, hem0]; rfl
 have sz1 : S.size + (rdV row (i + 1)).f2.size ≤ 9223372036854775807 := by omega
 have sz2 : (rdV row i).f2.size + (S.size + (rdV row (i + 1)).f2.size) ≤ 9223372036854775807 := by omega
 have z1 : (9223372036854775807 < S.size + (rdV row (i + 1)).f2.size) = False := eq_false (by omega)
 have z2 : (9223372036854775807 < (rdV row i).f2.size + (S.size + (rdV row (i + 1)).f2.size)) = False := eq_false (by omega)
 have sw : IntKind.i64.wrap (i + 1) = i + 1 := by rw [IntKind.wrap_i64]; omega
 clear hem hv2 hv3 hsep
 clear hr1
 go_enter Tryz.func65, Tryz.ntmps65
 go_wp2_with (first
  | (go_at_call 45; refine (shape_Find.calls _ _ _ _ _ _ (Kd.C_below HR.out (HB0.out _)) hc0 HF.out).mono ?_; rintro e w1 ⟨rfl, hb⟩; obtain ⟨hc, hf⟩ := bcell2 hb; have hz : w.heap.size < w1.heap.size := by { have h_ := hb.size; (try simp at h_); omega }; have BX := JN (JJ (BX0.out (.cells #[.int .i64 3, .string A, .string B, .string C, .string S, .int .i64 N, .int .i64 k, .int .i64 m, .string s] 29 (0, 0))) hb); have HB := JN (JA (HB0.out _) (HB0.out _).size hb); clear hb)
  | (go_at_call 58; refine (api_Value.calls _ _ _ _ _ (Kd.C_below HRW.out HB.out) hc1 HCL.out).mono ?_; rintro e w1 ⟨v0, rfl, hv, hb⟩; obtain ⟨hc, hf⟩ := bcell2 hb; have hz : w.heap.size < w1.heap.size := by { have h_ := hb.size; (try simp at h_); omega }; have HV : Jv (Kd.R k27 27 w1 (w.heap.size + 1) (fun _ => True) v0 row) := ⟨Kd.R_lower hv (by omega)⟩; clear hv; have BX' := JN (JJ BX.out hb); clear BX; have BX := BX'; clear BX'; have HB' := JN (JA HB.out HB.out.size hb); clear HB; have HB := HB'; clear HB' hb; obtain ⟨g, cap, rfl, hg0, hg1, hg2⟩ := ownVal HV.out (by omega); have hx2 := (HB.out.cell (JO w _ HX2.out)).trans HX2.out; have jx2 := (HB.out.cell (JO w _ JX2.out)).trans JX2.out))
 have bx4 : w1.cell? ⟨w.heap.size, 4, none⟩ = some (.string S) := (Jw BX.out 4).trans rfl
 go_quiet (fail)
 go_wp2_with (first
  | (go_at_call 108; refine (cut_calls _ _).mono ?_; rintro e w2 ⟨rfl, hb⟩; have HL2 : Jv (Below w1.heap.size w1 w2) := ⟨(bl_drewN (Below.refl _ _) _).trans (hb.mono (by simp))⟩; have hl2 : w1.heap.size ≤ w2.heap.size := HL2.out.size; clear hb)
  | (go_at_call 107; refine (rep1_val2 w w1 _ _ _ _ _ HB.out (by omega) HV.out ?hbl hi0 hi2 (by omega) (cutV ((rdV row i).f2 ++ (S ++ (rdV row (i + 1)).f2))) _ (by simp) (by omega)).mono ?_; (case hbl => repeat (first | (with_reducible exact HL2.out) | (with_reducible exact Below.refl _ _) | (with_reducible refine bl_alloc ?_ ?_ _) | (with_reducible refine bl_set ?_ ?_ _) | omega | (simp; omega))); rintro e w3 ⟨v1, rfl, hv, hb⟩; have HV3 := JN hv; have HB3 := JN hb; clear hv hb))
 go_ret
 exact ⟨_, rfl, HV3.out, HB3.out⟩
theorem bwd_retype (op : Int) (A B C S : ByteArray) (N k m : Int) (s : ByteArray) (A0 : Option Addr) (c0 : Nat) (cols : List Col) (A1 : Option Addr) (c1 : Nat) (row : List Val) (w : World) (hr0 : Kd.C k53 w A0 cols.length cols) (hc0 : cols.length ≤ c0) (hr1 : Kd.C k27 w A1 row.length row) (hc1 : row.length ≤ c1) (hn : row.length ≤ 1000) (hG : Good w) (hop : op = 5) (i : Int) (hi : JC cols A 0 = i) (hi0 : 0 ≤ i) (hi1 : i < row.length) (hv0 : -9223372036854775808 ≤ (rdV row i).f1) (hv1 : (rdV row i).f1 ≤ 9223372036854775807) (hv2 : (rdV row i).f2.size ≤ 1000000) (hic : i < cols.length) :
  Calls Tryz.prog 65 #[.agg #[.int .i64 op, .string A, .string B, .string C, .string S, .int .i64 N, .int .i64 k, .int .i64 m, .string s], .slice A0 cols.length c0, .slice A1 row.length c1] w (RowR (row.set i.toNat (convS (rdV row i) (rdC cols i).f1 ⟨(rdC cols i).f1, 0, ⟨#[]⟩⟩)) w) := by
 obtain rfl : op = 5 := hop
 have HR := JN hr0
 have HRW := JN hr1
 have HG := JN hG
 have hlen1 : row.length ≤ 9223372036854775807 := by omega
 clear hr0 hG
 have HB0 : Jv (∀ o, Below w.heap.size w (w.alloc o)) := ⟨fun o => JD (Below.refl w.heap.size w) o⟩
 have BX0 : Jv (∀ o, (w.alloc o).heap[w.heap.size]? = some o) := ⟨fun o => heap_alloc_new w o⟩
 have HCL : Jv (api_Value.f row = some row) := ⟨KO⟩
 have HF : Jv (shape_Find.f cols A = some i) := ⟨KF⟩
 clear hi
 have hu1 := Tryz.underlying29
 have hu2 := Tryz.underlying53
 have hu3 := Tryz.underlying27
 obtain ⟨ad, e, h0, h1, h2⟩ := at_T27 hr1 i hi0 hi1
 cases e
 have HX0 := JN h0
 have HX1 := JN h1
 have HX2 := JN h2
 clear h0 h1 h2
 obtain ⟨ac, e, k0, k1, k2⟩ := at_T53 HR.out i hi0 hic
 cases e
 have KX1 := JN k1
 clear k0 k1 k2
 have p := eq_true hi0
 have q := eq_true hi1
 have qc := eq_true hic
 obtain ⟨q', hq⟩ : ∃ q, convS (rdV row i) (rdC cols i).f1 ⟨(rdC cols i).f1, 0, ⟨#[]⟩⟩ = q := ⟨_, rfl⟩
 have HCV : Jv (∀ W, Below w.heap.size w W → Calls Tryz.prog 109 #[.agg #[.int .i64 (rdV row i).f0, .int .i64 (rdV row i).f1, .string (rdV row i).f2], .int .i64 (rdC cols i).f1, .agg #[.int .i64 (rdC cols i).f1, .int .i64 0, .string ⟨#[]⟩]] W fun e w' => e = .returned (.agg #[.int .i64 q'.f0, .int .i64 q'.f1, .string q'.f2]) ∧ Below W.heap.size W w') :=
  ⟨fun W hb => by have := convert_calls (rdV row i) (rdC cols i).f1 ⟨(rdC cols i).f1, 0, ⟨#[]⟩⟩ W (HG.out.below hb) hv0 hv1 (by omega); rwa [hq] at this⟩
 rw [hq]
 clear hq hv0 hv1 hv2 hic
 clear hr1
 go_enter Tryz.func65, Tryz.ntmps65
 go_wp2_with (first
  | (go_at_call 45; refine (shape_Find.calls _ _ _ _ _ _ (Kd.C_below HR.out (HB0.out _)) hc0 HF.out).mono ?_; rintro e w1 ⟨rfl, hb⟩; obtain ⟨hc, hf⟩ := bcell2 hb; have hz : w.heap.size < w1.heap.size := by { have h_ := hb.size; (try simp at h_); omega }; have BX := JN (JJ (BX0.out (.cells #[.int .i64 5, .string A, .string B, .string C, .string S, .int .i64 N, .int .i64 k, .int .i64 m, .string s] 29 (0, 0))) hb); have HB := JN (JA (HB0.out _) (HB0.out _).size hb); clear hb)
  | (go_at_call 58; refine (api_Value.calls _ _ _ _ _ (Kd.C_below HRW.out HB.out) hc1 HCL.out).mono ?_; rintro e w1 ⟨v0, rfl, hv, hb⟩; obtain ⟨hc, hf⟩ := bcell2 hb; have hz : w.heap.size < w1.heap.size := by { have h_ := hb.size; (try simp at h_); omega }; have HV : Jv (Kd.R k27 27 w1 (w.heap.size + 1) (fun _ => True) v0 row) := ⟨Kd.R_lower hv (by omega)⟩; clear hv; have BX' := JN (JJ BX.out hb); clear BX; have BX := BX'; clear BX'; have HB' := JN (JA HB.out HB.out.size hb); clear HB; have HB := HB'; clear HB' hb; obtain ⟨g, cap, rfl, hg0, hg1, hg2⟩ := ownVal HV.out (by omega)))
 have hx0 := (HB.out.cell (JO w _ HX0.out)).trans HX0.out
 have hx1 := (HB.out.cell (JO w _ HX1.out)).trans HX1.out
 have hx2 := (HB.out.cell (JO w _ HX2.out)).trans HX2.out
 have hne : (ad.add (i.toNat * 3)).block ≠ g := by have := JO w _ HX0.out; (try simp only at this); omega
 have hgn : w.heap.size ≠ g := by omega
 have kx1 := (HB.out.cell (JO w _ KX1.out)).trans KX1.out
 have hnec : (ac.add (i.toNat * 3)).block ≠ g := by have := JO w _ KX1.out; (try simp only at this); omega
 go_region_held3 (fun w' => w'.cell? (ad.add (i.toNat * 3)) = some (.int .i64 (rdV row i).f0) ∧ w'.cell? ⟨(ad.add (i.toNat * 3)).block, (ad.add (i.toNat * 3)).off + 1, none⟩ = some (.int .i64 (rdV row i).f1) ∧ w'.cell? ⟨(ad.add (i.toNat * 3)).block, (ad.add (i.toNat * 3)).off + 2, none⟩ = some (.string (rdV row i).f2) ∧ w'.cell? ⟨(ac.add (i.toNat * 3)).block, (ac.add (i.toNat * 3)).off + 1, none⟩ = some (.int .i64 (rdC cols i).f1)) (first | exact ⟨hx0, hx1, hx2, kx1⟩ | exact ⟨yhx0, yhx1, yhx2, ykx1⟩ | exact ⟨zhx0, zhx1, zhx2, zkx1⟩ | exact ⟨(far3c (a := ad.add (i.toNat * 3)) hne _ _ _ _ _ _).trans zhx0, (far3c (a := ⟨_, _, none⟩) hne _ _ _ _ _ _).trans zhx1, (far3c (a := ⟨_, _, none⟩) hne _ _ _ _ _ _).trans zhx2, (far3c (a := ⟨_, _, none⟩) hnec _ _ _ _ _ _).trans zkx1⟩) (first | (go_at_call 122; refine (value_Zero.calls _ _ _ _ _ rfl).mono ?_; rintro e w2 ⟨rfl, hb⟩; have HB2 := JN (JA (JH HB.out) (JH HB.out).size hb); have HV2 := JN (Kd.R_below (Kd.R_drew HV.out) hb); have yhx0 := (HB2.out.cell (JO w _ HX0.out)).trans HX0.out; have yhx1 := (HB2.out.cell (JO w _ HX1.out)).trans HX1.out; have yhx2 := (HB2.out.cell (JO w _ HX2.out)).trans HX2.out; have ykx1 := (HB2.out.cell (JO w _ KX1.out)).trans KX1.out; clear hb) | (go_at_call 109; refine (HCV.out _ HB2.out).mono ?_; rintro e w3 ⟨rfl, hb⟩; have HB3 := JN (JA HB2.out HB2.out.size hb); have HV3 := JN (Kd.R_below HV2.out hb); have zhx0 := (HB3.out.cell (JO w _ HX0.out)).trans HX0.out; have zhx1 := (HB3.out.cell (JO w _ HX1.out)).trans HX1.out; have zhx2 := (HB3.out.cell (JO w _ HX2.out)).trans HX2.out; have zkx1 := (HB3.out.cell (JO w _ KX1.out)).trans KX1.out; have hq := getVal HV3.out rfl i hi0 hi1 0 (by omega); have hr0 : w3.cell? ⟨g, i.toNat * 3, none⟩ = some (.int .i64 (rdV row i).f0) := hq.1; have hs0 : w3.frozen? ⟨g, i.toNat * 3, none⟩ = false := hq.2; clear hq; have hq := getVal HV3.out rfl i hi0 hi1 1 (by omega); have hr1 : w3.cell? ⟨g, i.toNat * 3 + 1, none⟩ = some (.int .i64 (rdV row i).f1) := hq.1; have hs1 : w3.frozen? ⟨g, i.toNat * 3 + 1, none⟩ = false := hq.2; clear hq; have hq := getVal HV3.out rfl i hi0 hi1 2 (by omega); have hr2 : w3.cell? ⟨g, i.toNat * 3 + 2, none⟩ = some (.string (rdV row i).f2) := hq.1; have hs2 : w3.frozen? ⟨g, i.toNat * 3 + 2, none⟩ = false := hq.2; clear hq; clear hb))
 try go_wp2
 go_ret
 exact ⟨.slice (some ⟨g, 0, none⟩) row.length cap, rfl, Kd.R_lower (put3Val HV3.out rfl i hi0 hi1 _ _ _) (show w.heap.size ≤ w.heap.size + 1 by omega), below3r HB3.out (show w.heap.size ≤ g by omega) _ _ _ _ _ _⟩
theorem bwd_join0 (op : Int) (A B C S : ByteArray) (N k m : Int) (s : ByteArray) (A0 : Option Addr) (c0 : Nat) (cols : List Col) (A1 : Option Addr) (c1 : Nat) (row : List Val) (w : World) (hr0 : Kd.C k53 w A0 cols.length cols) (hc0 : cols.length ≤ c0) (hr1 : Kd.C k27 w A1 row.length row) (hc1 : row.length ≤ c1) (hn : row.length ≤ 1000) (hG : Good w) (hop : op = 4) (i : Int) (hi : JC cols A 0 = i) (j : Int) (hj : JC cols B 0 = j) (hj0 : 0 ≤ j) (hj1 : j ≤ row.length) (hcond : decide (j < i) = false) (hi0 : 0 ≤ i) (hi1 : i < row.length) (hv2 : (rdV row i).f2.size ≤ 1000000) :
  Calls Tryz.prog 65 #[.agg #[.int .i64 op, .string A, .string B, .string C, .string S, .int .i64 N, .int .i64 k, .int .i64 m, .string s], .slice A0 cols.length c0, .slice A1 row.length c1] w (RowR ((row.set i.toNat (splitS (rdV row i).f2 S).1).take j.toNat ++ [(splitS (rdV row i).f2 S).2] ++ (row.set i.toNat (splitS (rdV row i).f2 S).1).drop j.toNat) w) := by
 obtain rfl : op = 4 := hop
 have HR := JN hr0
 have HRW := JN hr1
 have HG := JN hG
 have hlen1 : row.length ≤ 9223372036854775807 := by omega
 clear hr0 hG
 have HB0 : Jv (∀ o, Below w.heap.size w (w.alloc o)) := ⟨fun o => JD (Below.refl w.heap.size w) o⟩
 have BX0 : Jv (∀ o, (w.alloc o).heap[w.heap.size]? = some o) := ⟨fun o => heap_alloc_new w o⟩
 have HCL : Jv (api_Value.f row = some row) := ⟨KO⟩
 have HF : Jv (shape_Find.f cols A = some i) := ⟨KF⟩
 clear hi
 have hu1 := Tryz.underlying29
 have hu2 := Tryz.underlying53
 have hu3 := Tryz.underlying27
 obtain ⟨ad, e, h0, h1, h2⟩ := at_T27 hr1 i hi0 hi1
 cases e
 have HX0 := JN h0
 have HX1 := JN h1
 have HX2 := JN h2
 have p := eq_true hi0
 have q := eq_true hi1
 clear h0 h1 h2
 have HF2 : Jv (shape_Find.f cols B = some j) := ⟨by unfold shape_Find.f; rw [hj]⟩
 clear hj
 obtain ⟨q, hq⟩ : ∃ q, splitS (rdV row i).f2 S = q := ⟨_, rfl⟩
 have HCV : Jv (∀ W, Below w.heap.size w W → Calls Tryz.prog 106 #[.string (rdV row i).f2, .string S] W fun e w' => e = .returned (.tuple #[.agg #[.int .i64 q.1.f0, .int .i64 q.1.f1, .string q.1.f2], .agg #[.int .i64 q.2.f0, .int .i64 q.2.f1, .string q.2.f2]]) ∧ Below W.heap.size W w') :=
  ⟨fun W hb => by have := split_calls (rdV row i).f2 S W (HG.out.below hb) (by omega); rwa [hq] at this⟩
 rw [hq]
 clear hq hv2
 clear hr1
 go_enter Tryz.func65, Tryz.ntmps65
 go_wp2_with (first
  | (go_at_call 58; refine (api_Value.calls _ _ _ _ _ (Kd.C_below HRW.out HB.out) hc1 HCL.out).mono ?_; rintro e w1 ⟨v0, rfl, hv, hb⟩; obtain ⟨hc, hf⟩ := bcell2 hb; have hz : w.heap.size < w1.heap.size := by { have h_ := hb.size; (try simp at h_); omega }; have HV : Jv (Kd.R k27 27 w1 (w.heap.size + 1) (fun _ => True) v0 row) := ⟨Kd.R_lower hv (by omega)⟩; clear hv; have BX' := JN (JJ BX.out hb); clear BX; have BX := BX'; clear BX'; have HB' := JN (JA HB.out HB.out.size hb); clear HB; have HB := HB'; clear HB' hb; obtain ⟨g, cap, rfl, hg0, hg1, hg2⟩ := ownVal HV.out (by omega))
  | (go_at_call 45; (with_reducible refine (shape_Find.calls _ _ _ _ _ _ (Kd.C_below HR.out HB.out) hc0 HF2.out).mono ?_); rintro e w1 ⟨rfl, hb⟩; have hmo := hb.size; obtain ⟨hc, hf⟩ := bcell2 hb; have hz : w.heap.size < w1.heap.size := by { have h_ := hb.size; (try simp at h_); omega }; have HV' := JN (Kd.R_below HV.out hb); clear HV; have HV := HV'; clear HV'; have BX' := JN (JJ BX.out hb); clear BX; have BX := BX'; clear BX'; have HB' := JN (JA HB.out HB.out.size hb); clear HB; have HB := HB'; clear HB' hb)
  | (go_at_call 45; refine (shape_Find.calls _ _ _ _ _ _ (Kd.C_below HR.out (HB0.out _)) hc0 HF.out).mono ?_; rintro e w1 ⟨rfl, hb⟩; obtain ⟨hc, hf⟩ := bcell2 hb; have hz : w.heap.size < w1.heap.size := by { have h_ := hb.size; (try simp at h_); omega }; have BX := JN (JJ (BX0.out (.cells #[.int .i64 4, .string A, .string B, .string C, .string S, .int .i64 N, .int .i64 k, .int .i64 m, .string s] 29 (0, 0))) hb); have HB := JN (JA (HB0.out _) (HB0.out _).size hb); clear hb))
 have hx2 := (HB.out.cell (JO w _ HX2.out)).trans HX2.out
 have hne : (ad.add (i.toNat * 3)).block ≠ g := by have := JO w _ HX2.out; (try simp only at this); omega
 have hgn : w.heap.size ≠ g := by omega
 have bx4 : w1.cell? ⟨w.heap.size, 4, none⟩ = some (.string S) := (Jw BX.out 4).trans rfl
 have hgw : ¬ w1.heap.size = g := by omega
 have hgw1 : ¬ w1.heap.size + 1 = g := by omega
 have hgv : ¬ g = w1.heap.size := by omega
 have hgv1 : ¬ g = w1.heap.size + 1 := by omega
 have hb1 : (ad.add (i.toNat * 3)).block < w1.heap.size := by have := JO w1 _ hx2; exact this
 have hna : w1.heap.size ≠ (ad.add (i.toNat * 3)).block := by omega
 have hnb : w1.heap.size + 1 ≠ (ad.add (i.toNat * 3)).block := by omega
 have hnc : w1.heap.size ≠ w.heap.size := by omega
 have hnd : w1.heap.size + 1 ≠ w.heap.size := by omega
 go_region_held3 (fun w' => w'.cell? ⟨(ad.add (i.toNat * 3)).block, (ad.add (i.toNat * 3)).off + 2, none⟩ = some (.string (rdV row i).f2) ∧ w'.cell? ⟨w.heap.size, 4, none⟩ = some (.string S)) (go_keep) (first | (go_at_call 106; (with_reducible refine (HCV.out (w1.drew) (JH HB.out)).mono ?_); rintro e w2 ⟨rfl, hb⟩; have BX2 := JN (JJ (JF BX.out) hb); have HB2 := JN (Below.trans (JH HB.out) (hb.mono (show w.heap.size ≤ _ by simp; omega))); have yhx2 := (HB2.out.cell (JO w _ HX2.out)).trans HX2.out; have ybx4 : w2.cell? ⟨w.heap.size, 4, none⟩ = some (.string S) := (Jw BX2.out 4).trans rfl; have HL2 : Jv (Below w1.heap.size w1 w2) := ⟨Below.trans (bl_drew (Below.refl _ _)) (hb.mono (by simp <;> omega))⟩; have hl2 : w1.heap.size ≤ w2.heap.size := HL2.out.size; have HV2 := JN (Kd.R_below HV.out HL2.out); have hq := getVal HV2.out rfl i hi0 hi1 0 (by omega); have hr0 : w2.cell? ⟨g, i.toNat * 3, none⟩ = some (.int .i64 (rdV row i).f0) := hq.1; have hs0 : w2.frozen? ⟨g, i.toNat * 3, none⟩ = false := hq.2; clear hq; have hq := getVal HV2.out rfl i hi0 hi1 1 (by omega); have hr1 : w2.cell? ⟨g, i.toNat * 3 + 1, none⟩ = some (.int .i64 (rdV row i).f1) := hq.1; have hs1 : w2.frozen? ⟨g, i.toNat * 3 + 1, none⟩ = false := hq.2; clear hq; have hq := getVal HV2.out rfl i hi0 hi1 2 (by omega); have hr2 : w2.cell? ⟨g, i.toNat * 3 + 2, none⟩ = some (.string (rdV row i).f2) := hq.1; have hs2 : w2.frozen? ⟨g, i.toNat * 3 + 2, none⟩ = false := hq.2; clear hq; have hgx : ¬ w2.heap.size = g := (by omega); have hgx1 : ¬ w2.heap.size + 1 = g := (by omega); have hgy : ¬ g = w2.heap.size := (by omega); have hgy1 : ¬ g = w2.heap.size + 1 := (by omega); have hgl : g < w2.heap.size := (by omega); have hgl1 : g < w2.heap.size + 1 := (by omega); clear hb) | (go_at_call 106; (with_reducible refine (HCV.out ((w1.alloc (.cells #[.int .i64 0, .int .i64 0, .string ⟨#[]⟩] 27 (0, 0))).drew) (JH (JD HB.out _))).mono ?_); rintro e w2 ⟨rfl, hb⟩; have BX2 := JN (JJ (JF (JE BX.out _)) hb); have HB2 := JN (Below.trans (JH (JD HB.out _)) (hb.mono (show w.heap.size ≤ _ by simp; omega))); have yhx2 := (HB2.out.cell (JO w _ HX2.out)).trans HX2.out; have ybx4 : w2.cell? ⟨w.heap.size, 4, none⟩ = some (.string S) := (Jw BX2.out 4).trans rfl; have HL2 : Jv (Below w1.heap.size w1 w2) := ⟨Below.trans (bl_drew (bl_alloc (Below.refl _ _) (Nat.le_refl _) _)) (hb.mono (by simp <;> omega))⟩; have hl2 : w1.heap.size ≤ w2.heap.size := HL2.out.size; have HV2 := JN (Kd.R_below HV.out HL2.out); have hq := getVal HV2.out rfl i hi0 hi1 0 (by omega); have hr0 : w2.cell? ⟨g, i.toNat * 3, none⟩ = some (.int .i64 (rdV row i).f0) := hq.1; have hs0 : w2.frozen? ⟨g, i.toNat * 3, none⟩ = false := hq.2; clear hq; have hq := getVal HV2.out rfl i hi0 hi1 1 (by omega); have hr1 : w2.cell? ⟨g, i.toNat * 3 + 1, none⟩ = some (.int .i64 (rdV row i).f1) := hq.1; have hs1 : w2.frozen? ⟨g, i.toNat * 3 + 1, none⟩ = false := hq.2; clear hq; have hq := getVal HV2.out rfl i hi0 hi1 2 (by omega); have hr2 : w2.cell? ⟨g, i.toNat * 3 + 2, none⟩ = some (.string (rdV row i).f2) := hq.1; have hs2 : w2.frozen? ⟨g, i.toNat * 3 + 2, none⟩ = false := hq.2; clear hq; have hgx : ¬ w2.heap.size = g := (by omega); have hgx1 : ¬ w2.heap.size + 1 = g := (by omega); have hgy : ¬ g = w2.heap.size := (by omega); have hgy1 : ¬ g = w2.heap.size + 1 := (by omega); have hgl : g < w2.heap.size := (by omega); have hgl1 : g < w2.heap.size + 1 := (by omega); have ba := keep_one hb; obtain ⟨za0, za1, za2, za3, za4, za5⟩ := cells3 ba; have hl3 : w1.heap.size < w2.heap.size := (blk_lt ba); have hl4 : ¬ w1.heap.size = w2.heap.size := (by omega); have hl5 : ¬ w2.heap.size = w1.heap.size := (by omega); clear ba; clear hb) | (go_at_call 106; (with_reducible refine (HCV.out (((w1.alloc (.cells #[.int .i64 0, .int .i64 0, .string ⟨#[]⟩] 27 (0, 0))).alloc (.cells #[.int .i64 0, .int .i64 0, .string ⟨#[]⟩] 27 (0, 0))).drew) (JH (JD (JD HB.out _) _))).mono ?_); rintro e w2 ⟨rfl, hb⟩; have BX2 := JN (JJ (JF (JE (JE BX.out _) _)) hb); have HB2 := JN (Below.trans (JH (JD (JD HB.out _) _)) (hb.mono (show w.heap.size ≤ _ by simp; omega))); have yhx2 := (HB2.out.cell (JO w _ HX2.out)).trans HX2.out; have ybx4 : w2.cell? ⟨w.heap.size, 4, none⟩ = some (.string S) := (Jw BX2.out 4).trans rfl; have HL2 : Jv (Below w1.heap.size w1 w2) := ⟨Below.trans (bl_drew (bl_alloc (bl_alloc (Below.refl _ _) (Nat.le_refl _) _) (by simp) _)) (hb.mono (by simp <;> omega))⟩; have hl2 : w1.heap.size ≤ w2.heap.size := HL2.out.size; have HV2 := JN (Kd.R_below HV.out HL2.out); have hq := getVal HV2.out rfl i hi0 hi1 0 (by omega); have hr0 : w2.cell? ⟨g, i.toNat * 3, none⟩ = some (.int .i64 (rdV row i).f0) := hq.1; have hs0 : w2.frozen? ⟨g, i.toNat * 3, none⟩ = false := hq.2; clear hq; have hq := getVal HV2.out rfl i hi0 hi1 1 (by omega); have hr1 : w2.cell? ⟨g, i.toNat * 3 + 1, none⟩ = some (.int .i64 (rdV row i).f1) := hq.1; have hs1 : w2.frozen? ⟨g, i.toNat * 3 + 1, none⟩ = false := hq.2; clear hq; have hq := getVal HV2.out rfl i hi0 hi1 2 (by omega); have hr2 : w2.cell? ⟨g, i.toNat * 3 + 2, none⟩ = some (.string (rdV row i).f2) := hq.1; have hs2 : w2.frozen? ⟨g, i.toNat * 3 + 2, none⟩ = false := hq.2; clear hq; have hgx : ¬ w2.heap.size = g := (by omega); have hgx1 : ¬ w2.heap.size + 1 = g := (by omega); have hgy : ¬ g = w2.heap.size := (by omega); have hgy1 : ¬ g = w2.heap.size + 1 := (by omega); have hgl : g < w2.heap.size := (by omega); have hgl1 : g < w2.heap.size + 1 := (by omega); obtain ⟨ba, bb⟩ := keep_two hb; obtain ⟨za0, za1, za2, za3, za4, za5⟩ := cells3 ba; obtain ⟨zb0, zb1, zb2, zb3, zb4, zb5⟩ := cells3 bb; have hl3 : w1.heap.size + 1 < w2.heap.size := (blk_lt bb); have hl4 : ¬ w1.heap.size + 1 = w2.heap.size := (by omega); have hl5 : ¬ w1.heap.size = w2.heap.size := (by omega); clear ba bb; clear hb))
 focus (go_wp2_with (go_at_call 121; refine Calls.mono (insert_val2 w _ _ _ _ (row.set i.toNat q.1) ?_ ?_ ?_ (Below.refl _ _) hj0 (Jg) (Jp) q.2 _ ?_ (Jj)) ?_; (focus (repeat (first | (with_reducible exact HB2.out) | (with_reducible exact HL2.out) | (with_reducible refine bl_alloc ?_ ?_ _) | (with_reducible refine bl_set ?_ ?_ _) | omega | (simp; omega)))); (focus (simp; omega)); (focus (refine Kd.R_below (Kd.R_below (put3Val (Kd.R_below HV.out ?_) rfl _ hi0 hi1 _ _ _) (JD (Below.refl _ _) _)) (JD (Below.refl _ _) _); repeat (first | (with_reducible exact HB2.out) | (with_reducible exact HL2.out) | (with_reducible refine bl_alloc ?_ ?_ _) | (with_reducible refine bl_set ?_ ?_ _) | omega | (simp; omega)))); (focus simp); rintro e w3 ⟨v1, rfl, hv, hb⟩; have HV3 := JN hv; have HB3 := JN hb; clear hv hb); go_ret; exact ⟨_, rfl, HV3.out, HB3.out⟩)
 focus (go_wp2_with (go_at_call 121; refine Calls.mono (insert_val2 w _ _ _ _ (row.set i.toNat q.1) ?_ ?_ ?_ (Below.refl _ _) hj0 (Jg) (Jp) q.2 _ ?_ (Jj)) ?_; (focus (repeat (first | (with_reducible exact HB2.out) | (with_reducible exact HL2.out) | (with_reducible refine bl_alloc ?_ ?_ _) | (with_reducible refine bl_set ?_ ?_ _) | omega | (simp; omega)))); (focus (simp; omega)); (focus (refine Kd.R_below (Kd.R_below (put3Val (Kd.R_below HV.out ?_) rfl _ hi0 hi1 _ _ _) (JD (Below.refl _ _) _)) (JD (Below.refl _ _) _); repeat (first | (with_reducible exact HB2.out) | (with_reducible exact HL2.out) | (with_reducible refine bl_alloc ?_ ?_ _) | (with_reducible refine bl_set ?_ ?_ _) | omega | (simp; omega)))); (focus simp); rintro e w3 ⟨v1, rfl, hv, hb⟩; have HV3 := JN hv; have HB3 := JN hb; clear hv hb); go_ret; exact ⟨_, rfl, HV3.out, HB3.out⟩)
 focus (go_wp2_with (go_at_call 121; refine Calls.mono (insert_val2 w _ _ _ _ (row.set i.toNat q.1) ?_ ?_ ?_ (Below.refl _ _) hj0 (Jg) (Jp) q.2 _ ?_ (Jj)) ?_; (focus (repeat (first | (with_reducible exact HB2.out) | (with_reducible exact HL2.out) | (with_reducible refine bl_alloc ?_ ?_ _) | (with_reducible refine bl_set ?_ ?_ _) | omega | (simp; omega)))); (focus (simp; omega)); (focus (refine Kd.R_below (put3Val (Kd.R_below HV.out ?_) rfl _ hi0 hi1 _ _ _) (JD (Below.refl _ _) _); repeat (first | (with_reducible exact HB2.out) | (with_reducible exact HL2.out) | (with_reducible refine bl_alloc ?_ ?_ _) | (with_reducible refine bl_set ?_ ?_ _) | omega | (simp; omega)))); (focus simp); rintro e w3 ⟨v1, rfl, hv, hb⟩; have HV3 := JN hv; have HB3 := JN hb; clear hv hb); go_ret; exact ⟨_, rfl, HV3.out, HB3.out⟩)
 focus (go_wp2_with (go_at_call 121; refine Calls.mono (insert_val2 w _ _ _ _ (row.set i.toNat q.1) ?_ ?_ ?_ (Below.refl _ _) hj0 (Jg) (Jp) q.2 _ ?_ (Jj)) ?_; (focus (repeat (first | (with_reducible exact HB2.out) | (with_reducible exact HL2.out) | (with_reducible refine bl_alloc ?_ ?_ _) | (with_reducible refine bl_set ?_ ?_ _) | omega | (simp; omega)))); (focus (simp; omega)); (focus (refine put3Val (Kd.R_below HV.out ?_) rfl _ hi0 hi1 _ _ _; repeat (first | (with_reducible exact HB2.out) | (with_reducible exact HL2.out) | (with_reducible refine bl_alloc ?_ ?_ _) | (with_reducible refine bl_set ?_ ?_ _) | omega | (simp; omega)))); (focus simp); rintro e w3 ⟨v1, rfl, hv, hb⟩; have HV3 := JN hv; have HB3 := JN hb; clear hv hb); go_ret; exact ⟨_, rfl, HV3.out, HB3.out⟩)
 focus (go_wp2_with (go_at_call 121; refine Calls.mono (insert_val2 w _ _ _ _ (row.set i.toNat q.1) ?_ ?_ ?_ (Below.refl _ _) hj0 (Jg) (Jp) q.2 _ ?_ (Jj)) ?_; (focus (repeat (first | (with_reducible exact HB2.out) | (with_reducible exact HL2.out) | (with_reducible refine bl_alloc ?_ ?_ _) | (with_reducible refine bl_set ?_ ?_ _) | omega | (simp; omega)))); (focus (simp; omega)); (focus (refine Kd.R_below (put3Val (Kd.R_below HV.out ?_) rfl _ hi0 hi1 _ _ _) (JD (Below.refl _ _) _); repeat (first | (with_reducible exact HB2.out) | (with_reducible exact HL2.out) | (with_reducible refine bl_alloc ?_ ?_ _) | (with_reducible refine bl_set ?_ ?_ _) | omega | (simp; omega)))); (focus simp); rintro e w3 ⟨v1, rfl, hv, hb⟩; have HV3 := JN hv; have HB3 := JN hb; clear hv hb); go_ret; exact ⟨_, rfl, HV3.out, HB3.out⟩)
 focus (go_wp2_with (go_at_call 121; refine Calls.mono (insert_val2 w _ _ _ _ (row.set i.toNat q.1) ?_ ?_ ?_ (Below.refl _ _) hj0 (Jg) (Jp) q.2 _ ?_ (Jj)) ?_; (focus (repeat (first | (with_reducible exact HB2.out) | (with_reducible exact HL2.out) | (with_reducible refine bl_alloc ?_ ?_ _) | (with_reducible refine bl_set ?_ ?_ _) | omega | (simp; omega)))); (focus (simp; omega)); (focus (refine put3Val (Kd.R_below HV.out ?_) rfl _ hi0 hi1 _ _ _; repeat (first | (with_reducible exact HB2.out) | (with_reducible exact HL2.out) | (with_reducible refine bl_alloc ?_ ?_ _) | (with_reducible refine bl_set ?_ ?_ _) | omega | (simp; omega)))); (focus simp); rintro e w3 ⟨v1, rfl, hv, hb⟩; have HV3 := JN hv; have HB3 := JN hb; clear hv hb); go_ret; exact ⟨_, rfl, HV3.out, HB3.out⟩)
theorem bwd_join1 (op : Int) (A B C S : ByteArray) (N k m : Int) (s : ByteArray) (A0 : Option Addr) (c0 : Nat) (cols : List Col) (A1 : Option Addr) (c1 : Nat) (row : List Val) (w : World) (hr0 : Kd.C k53 w A0 cols.length cols) (hc0 : cols.length ≤ c0) (hr1 : Kd.C k27 w A1 row.length row) (hc1 : row.length ≤ c1) (hn : row.length ≤ 1000) (hG : Good w) (hop : op = 4) (i : Int) (hi : JC cols A 0 = i + 1) (j : Int) (hj : JC cols B 0 = j) (hj0 : 0 ≤ j) (hj1 : j ≤ row.length) (hcond : decide (j < i + 1) = true) (hi0 : 0 ≤ i) (hi1 : i < row.length) (hv2 : (rdV row i).f2.size ≤ 1000000) :
  Calls Tryz.prog 65 #[.agg #[.int .i64 op, .string A, .string B, .string C, .string S, .int .i64 N, .int .i64 k, .int .i64 m, .string s], .slice A0 cols.length c0, .slice A1 row.length c1] w (RowR ((row.set i.toNat (splitS (rdV row i).f2 S).1).take j.toNat ++ [(splitS (rdV row i).f2 S).2] ++ (row.set i.toNat (splitS (rdV row i).f2 S).1).drop j.toNat) w) := by
 obtain rfl : op = 4 := hop
 have HR := JN hr0
 have HRW := JN hr1
 have HG := JN hG
 have hlen1 : row.length ≤ 9223372036854775807 := by omega
 clear hr0 hG
 have HB0 : Jv (∀ o, Below w.heap.size w (w.alloc o)) := ⟨fun o => JD (Below.refl w.heap.size w) o⟩
 have BX0 : Jv (∀ o, (w.alloc o).heap[w.heap.size]? = some o) := ⟨fun o => heap_alloc_new w o⟩
 have HCL : Jv (api_Value.f row = some row) := ⟨KO⟩
 have HF : Jv (shape_Find.f cols A = some (i + 1)) := ⟨KF⟩
 clear hi
 have hu1 := Tryz.underlying29
 have hu2 := Tryz.underlying53
 have hu3 := Tryz.underlying27
 obtain ⟨ad, e, h0, h1, h2⟩ := at_T27 hr1 i hi0 hi1
 cases e
 have HX0 := JN h0
 have HX1 := JN h1
 have HX2 := JN h2
 have p := eq_true hi0
 have q := eq_true hi1
 clear h0 h1 h2
 have HF2 : Jv (shape_Find.f cols B = some j) := ⟨by unfold shape_Find.f; rw [hj]⟩
 clear hj
 obtain ⟨q, hq⟩ : ∃ q, splitS (rdV row i).f2 S = q := ⟨_, rfl⟩
 have HCV : Jv (∀ W, Below w.heap.size w W → Calls Tryz.prog 106 #[.string (rdV row i).f2, .string S] W fun e w' => e = .returned (.tuple #[.agg #[.int .i64 q.1.f0, .int .i64 q.1.f1, .string q.1.f2], .agg #[.int .i64 q.2.f0, .int .i64 q.2.f1, .string q.2.f2]]) ∧ Below W.heap.size W w') :=
  ⟨fun W hb => by have := split_calls (rdV row i).f2 S W (HG.out.below hb) (by omega); rwa [hq] at this⟩
 rw [hq]
 clear hq hv2
 have swr : IntKind.i64.wrap (i + 1 - 1) = i := by rw [IntKind.wrap_i64]; omega
 have swr2 : i + 1 - 1 = i := by omega
 clear hr1
 go_enter Tryz.func65, Tryz.ntmps65
 go_wp2_with (first
  | (go_at_call 58; refine (api_Value.calls _ _ _ _ _ (Kd.C_below HRW.out HB.out) hc1 HCL.out).mono ?_; rintro e w1 ⟨v0, rfl, hv, hb⟩; obtain ⟨hc, hf⟩ := bcell2 hb; have hz : w.heap.size < w1.heap.size := by { have h_ := hb.size; (try simp at h_); omega }; have HV : Jv (Kd.R k27 27 w1 (w.heap.size + 1) (fun _ => True) v0 row) := ⟨Kd.R_lower hv (by omega)⟩; clear hv; have BX' := JN (JJ BX.out hb); clear BX; have BX := BX'; clear BX'; have HB' := JN (JA HB.out HB.out.size hb); clear HB; have HB := HB'; clear HB' hb; obtain ⟨g, cap, rfl, hg0, hg1, hg2⟩ := ownVal HV.out (by omega))
  | (go_at_call 45; (with_reducible refine (shape_Find.calls _ _ _ _ _ _ (Kd.C_below HR.out HB.out) hc0 HF2.out).mono ?_); rintro e w1 ⟨rfl, hb⟩; have hmo := hb.size; obtain ⟨hc, hf⟩ := bcell2 hb; have hz : w.heap.size < w1.heap.size := by { have h_ := hb.size; (try simp at h_); omega }; have HV' := JN (Kd.R_below HV.out hb); clear HV; have HV := HV'; clear HV'; have BX' := JN (JJ BX.out hb); clear BX; have BX := BX'; clear BX'; have HB' := JN (JA HB.out HB.out.size hb); clear HB; have HB := HB'; clear HB' hb)
  | (go_at_call 45; refine (shape_Find.calls _ _ _ _ _ _ (Kd.C_below HR.out (HB0.out _)) hc0 HF.out).mono ?_; rintro e w1 ⟨rfl, hb⟩; obtain ⟨hc, hf⟩ := bcell2 hb; have hz : w.heap.size < w1.heap.size := by { have h_ := hb.size; (try simp at h_); omega }; have BX := JN (JJ (BX0.out (.cells #[.int .i64 4, .string A, .string B, .string C, .string S, .int .i64 N, .int .i64 k, .int .i64 m, .string s] 29 (0, 0))) hb); have HB := JN (JA (HB0.out _) (HB0.out _).size hb); clear hb))
 have hx2 := (HB.out.cell (JO w _ HX2.out)).trans HX2.out
 have hne : (ad.add (i.toNat * 3)).block ≠ g := by have := JO w _ HX2.out; (try simp only at this); omega
 have hgn : w.heap.size ≠ g := by omega
 have bx4 : w1.cell? ⟨w.heap.size, 4, none⟩ = some (.string S) := (Jw BX.out 4).trans rfl
 have hgw : ¬ w1.heap.size = g := by omega
 have hgw1 : ¬ w1.heap.size + 1 = g := by omega
 have hgv : ¬ g = w1.heap.size := by omega
 have hgv1 : ¬ g = w1.heap.size + 1 := by omega
 have hb1 : (ad.add (i.toNat * 3)).block < w1.heap.size := by have := JO w1 _ hx2; exact this
 have hna : w1.heap.size ≠ (ad.add (i.toNat * 3)).block := by omega
 have hnb : w1.heap.size + 1 ≠ (ad.add (i.toNat * 3)).block := by omega
 have hnc : w1.heap.size ≠ w.heap.size := by omega
 have hnd : w1.heap.size + 1 ≠ w.heap.size := by omega
 go_region_held3 (fun w' => w'.cell? ⟨(ad.add (i.toNat * 3)).block, (ad.add (i.toNat * 3)).off + 2, none⟩ = some (.string (rdV row i).f2) ∧ w'.cell? ⟨w.heap.size, 4, none⟩ = some (.string S)) (go_keep) (first | (go_at_call 106; (with_reducible refine (HCV.out (w1.drew) (JH HB.out)).mono ?_); rintro e w2 ⟨rfl, hb⟩; have BX2 := JN (JJ (JF BX.out) hb); have HB2 := JN (Below.trans (JH HB.out) (hb.mono (show w.heap.size ≤ _ by simp; omega))); have yhx2 := (HB2.out.cell (JO w _ HX2.out)).trans HX2.out; have ybx4 : w2.cell? ⟨w.heap.size, 4, none⟩ = some (.string S) := (Jw BX2.out 4).trans rfl; have HL2 : Jv (Below w1.heap.size w1 w2) := ⟨Below.trans (bl_drew (Below.refl _ _)) (hb.mono (by simp <;> omega))⟩; have hl2 : w1.heap.size ≤ w2.heap.size := HL2.out.size; have HV2 := JN (Kd.R_below HV.out HL2.out); have hq := getVal HV2.out rfl i hi0 hi1 0 (by omega); have hr0 : w2.cell? ⟨g, i.toNat * 3, none⟩ = some (.int .i64 (rdV row i).f0) := hq.1; have hs0 : w2.frozen? ⟨g, i.toNat * 3, none⟩ = false := hq.2; clear hq; have hq := getVal HV2.out rfl i hi0 hi1 1 (by omega); have hr1 : w2.cell? ⟨g, i.toNat * 3 + 1, none⟩ = some (.int .i64 (rdV row i).f1) := hq.1; have hs1 : w2.frozen? ⟨g, i.toNat * 3 + 1, none⟩ = false := hq.2; clear hq; have hq := getVal HV2.out rfl i hi0 hi1 2 (by omega); have hr2 : w2.cell? ⟨g, i.toNat * 3 + 2, none⟩ = some (.string (rdV row i).f2) := hq.1; have hs2 : w2.frozen? ⟨g, i.toNat * 3 + 2, none⟩ = false := hq.2; clear hq; have hgx : ¬ w2.heap.size = g := (by omega); have hgx1 : ¬ w2.heap.size + 1 = g := (by omega); have hgy : ¬ g = w2.heap.size := (by omega); have hgy1 : ¬ g = w2.heap.size + 1 := (by omega); have hgl : g < w2.heap.size := (by omega); have hgl1 : g < w2.heap.size + 1 := (by omega); clear hb) | (go_at_call 106; (with_reducible refine (HCV.out ((w1.alloc (.cells #[.int .i64 0, .int .i64 0, .string ⟨#[]⟩] 27 (0, 0))).drew) (JH (JD HB.out _))).mono ?_); rintro e w2 ⟨rfl, hb⟩; have BX2 := JN (JJ (JF (JE BX.out _)) hb); have HB2 := JN (Below.trans (JH (JD HB.out _)) (hb.mono (show w.heap.size ≤ _ by simp; omega))); have yhx2 := (HB2.out.cell (JO w _ HX2.out)).trans HX2.out; have ybx4 : w2.cell? ⟨w.heap.size, 4, none⟩ = some (.string S) := (Jw BX2.out 4).trans rfl; have HL2 : Jv (Below w1.heap.size w1 w2) := ⟨Below.trans (bl_drew (bl_alloc (Below.refl _ _) (Nat.le_refl _) _)) (hb.mono (by simp <;> omega))⟩; have hl2 : w1.heap.size ≤ w2.heap.size := HL2.out.size; have HV2 := JN (Kd.R_below HV.out HL2.out); have hq := getVal HV2.out rfl i hi0 hi1 0 (by omega); have hr0 : w2.cell? ⟨g, i.toNat * 3, none⟩ = some (.int .i64 (rdV row i).f0) := hq.1; have hs0 : w2.frozen? ⟨g, i.toNat * 3, none⟩ = false := hq.2; clear hq; have hq := getVal HV2.out rfl i hi0 hi1 1 (by omega); have hr1 : w2.cell? ⟨g, i.toNat * 3 + 1, none⟩ = some (.int .i64 (rdV row i).f1) := hq.1; have hs1 : w2.frozen? ⟨g, i.toNat * 3 + 1, none⟩ = false := hq.2; clear hq; have hq := getVal HV2.out rfl i hi0 hi1 2 (by omega); have hr2 : w2.cell? ⟨g, i.toNat * 3 + 2, none⟩ = some (.string (rdV row i).f2) := hq.1; have hs2 : w2.frozen? ⟨g, i.toNat * 3 + 2, none⟩ = false := hq.2; clear hq; have hgx : ¬ w2.heap.size = g := (by omega); have hgx1 : ¬ w2.heap.size + 1 = g := (by omega); have hgy : ¬ g = w2.heap.size := (by omega); have hgy1 : ¬ g = w2.heap.size + 1 := (by omega); have hgl : g < w2.heap.size := (by omega); have hgl1 : g < w2.heap.size + 1 := (by omega); have ba := keep_one hb; obtain ⟨za0, za1, za2, za3, za4, za5⟩ := cells3 ba; have hl3 : w1.heap.size < w2.heap.size := (blk_lt ba); have hl4 : ¬ w1.heap.size = w2.heap.size := (by omega); have hl5 : ¬ w2.heap.size = w1.heap.size := (by omega); clear ba; clear hb) | (go_at_call 106; (with_reducible refine (HCV.out (((w1.alloc (.cells #[.int .i64 0, .int .i64 0, .string ⟨#[]⟩] 27 (0, 0))).alloc (.cells #[.int .i64 0, .int .i64 0, .string ⟨#[]⟩] 27 (0, 0))).drew) (JH (JD (JD HB.out _) _))).mono ?_); rintro e w2 ⟨rfl, hb⟩; have BX2 := JN (JJ (JF (JE (JE BX.out _) _)) hb); have HB2 := JN (Below.trans (JH (JD (JD HB.out _) _)) (hb.mono (show w.heap.size ≤ _ by simp; omega))); have yhx2 := (HB2.out.cell (JO w _ HX2.out)).trans HX2.out; have ybx4 : w2.cell? ⟨w.heap.size, 4, none⟩ = some (.string S) := (Jw BX2.out 4).trans rfl; have HL2 : Jv (Below w1.heap.size w1 w2) := ⟨Below.trans (bl_drew (bl_alloc (bl_alloc (Below.refl _ _) (Nat.le_refl _) _) (by simp) _)) (hb.mono (by simp <;> omega))⟩; have hl2 : w1.heap.size ≤ w2.heap.size := HL2.out.size; have HV2 := JN (Kd.R_below HV.out HL2.out); have hq := getVal HV2.out rfl i hi0 hi1 0 (by omega); have hr0 : w2.cell? ⟨g, i.toNat * 3, none⟩ = some (.int .i64 (rdV row i).f0) := hq.1; have hs0 : w2.frozen? ⟨g, i.toNat * 3, none⟩ = false := hq.2; clear hq; have hq := getVal HV2.out rfl i hi0 hi1 1 (by omega); have hr1 : w2.cell? ⟨g, i.toNat * 3 + 1, none⟩ = some (.int .i64 (rdV row i).f1) := hq.1; have hs1 : w2.frozen? ⟨g, i.toNat * 3 + 1, none⟩ = false := hq.2; clear hq; have hq := getVal HV2.out rfl i hi0 hi1 2 (by omega); have hr2 : w2.cell? ⟨g, i.toNat * 3 + 2, none⟩ = some (.string (rdV row i).f2) := hq.1; have hs2 : w2.frozen? ⟨g, i.toNat * 3 + 2, none⟩ = false := hq.2; clear hq; have hgx : ¬ w2.heap.size = g := (by omega); have hgx1 : ¬ w2.heap.size + 1 = g := (by omega); have hgy : ¬ g = w2.heap.size := (by omega); have hgy1 : ¬ g = w2.heap.size + 1 := (by omega); have hgl : g < w2.heap.size := (by omega); have hgl1 : g < w2.heap.size + 1 := (by omega); obtain ⟨ba, bb⟩ := keep_two hb; obtain ⟨za0, za1, za2, za3, za4, za5⟩ := cells3 ba; obtain ⟨zb0, zb1, zb2, zb3, zb4, zb5⟩ := cells3 bb; have hl3 : w1.heap.size + 1 < w2.heap.size := (blk_lt bb); have hl4 : ¬ w1.heap.size + 1 = w2.heap.size := (by omega); have hl5 : ¬ w1.heap.size = w2.heap.size := (by omega); clear ba bb; clear hb))
 focus (go_wp2_with (go_at_call 121; refine Calls.mono (insert_val2 w _ _ _ _ (row.set i.toNat q.1) ?_ ?_ ?_ (Below.refl _ _) hj0 (Jg) (Jp) q.2 _ ?_ (Jj)) ?_; (focus (repeat (first | (with_reducible exact HB2.out) | (with_reducible exact HL2.out) | (with_reducible refine bl_alloc ?_ ?_ _) | (with_reducible refine bl_set ?_ ?_ _) | omega | (simp; omega)))); (focus (simp; omega)); (focus (refine Kd.R_below (Kd.R_below (put3Val (Kd.R_below HV.out ?_) rfl _ hi0 hi1 _ _ _) (JD (Below.refl _ _) _)) (JD (Below.refl _ _) _); repeat (first | (with_reducible exact HB2.out) | (with_reducible exact HL2.out) | (with_reducible refine bl_alloc ?_ ?_ _) | (with_reducible refine bl_set ?_ ?_ _) | omega | (simp; omega)))); (focus simp); rintro e w3 ⟨v1, rfl, hv, hb⟩; have HV3 := JN hv; have HB3 := JN hb; clear hv hb); go_ret; exact ⟨_, rfl, HV3.out, HB3.out⟩)
 focus (go_wp2_with (go_at_call 121; refine Calls.mono (insert_val2 w _ _ _ _ (row.set i.toNat q.1) ?_ ?_ ?_ (Below.refl _ _) hj0 (Jg) (Jp) q.2 _ ?_ (Jj)) ?_; (focus (repeat (first | (with_reducible exact HB2.out) | (with_reducible exact HL2.out) | (with_reducible refine bl_alloc ?_ ?_ _) | (with_reducible refine bl_set ?_ ?_ _) | omega | (simp; omega)))); (focus (simp; omega)); (focus (refine Kd.R_below (Kd.R_below (put3Val (Kd.R_below HV.out ?_) rfl _ hi0 hi1 _ _ _) (JD (Below.refl _ _) _)) (JD (Below.refl _ _) _); repeat (first | (with_reducible exact HB2.out) | (with_reducible exact HL2.out) | (with_reducible refine bl_alloc ?_ ?_ _) | (with_reducible refine bl_set ?_ ?_ _) | omega | (simp; omega)))); (focus simp); rintro e w3 ⟨v1, rfl, hv, hb⟩; have HV3 := JN hv; have HB3 := JN hb; clear hv hb); go_ret; exact ⟨_, rfl, HV3.out, HB3.out⟩)
 focus (go_wp2_with (go_at_call 121; refine Calls.mono (insert_val2 w _ _ _ _ (row.set i.toNat q.1) ?_ ?_ ?_ (Below.refl _ _) hj0 (Jg) (Jp) q.2 _ ?_ (Jj)) ?_; (focus (repeat (first | (with_reducible exact HB2.out) | (with_reducible exact HL2.out) | (with_reducible refine bl_alloc ?_ ?_ _) | (with_reducible refine bl_set ?_ ?_ _) | omega | (simp; omega)))); (focus (simp; omega)); (focus (refine Kd.R_below (put3Val (Kd.R_below HV.out ?_) rfl _ hi0 hi1 _ _ _) (JD (Below.refl _ _) _); repeat (first | (with_reducible exact HB2.out) | (with_reducible exact HL2.out) | (with_reducible refine bl_alloc ?_ ?_ _) | (with_reducible refine bl_set ?_ ?_ _) | omega | (simp; omega)))); (focus simp); rintro e w3 ⟨v1, rfl, hv, hb⟩; have HV3 := JN hv; have HB3 := JN hb; clear hv hb); go_ret; exact ⟨_, rfl, HV3.out, HB3.out⟩)
 focus (go_wp2_with (go_at_call 121; refine Calls.mono (insert_val2 w _ _ _ _ (row.set i.toNat q.1) ?_ ?_ ?_ (Below.refl _ _) hj0 (Jg) (Jp) q.2 _ ?_ (Jj)) ?_; (focus (repeat (first | (with_reducible exact HB2.out) | (with_reducible exact HL2.out) | (with_reducible refine bl_alloc ?_ ?_ _) | (with_reducible refine bl_set ?_ ?_ _) | omega | (simp; omega)))); (focus (simp; omega)); (focus (refine put3Val (Kd.R_below HV.out ?_) rfl _ hi0 hi1 _ _ _; repeat (first | (with_reducible exact HB2.out) | (with_reducible exact HL2.out) | (with_reducible refine bl_alloc ?_ ?_ _) | (with_reducible refine bl_set ?_ ?_ _) | omega | (simp; omega)))); (focus simp); rintro e w3 ⟨v1, rfl, hv, hb⟩; have HV3 := JN hv; have HB3 := JN hb; clear hv hb); go_ret; exact ⟨_, rfl, HV3.out, HB3.out⟩)
 focus (go_wp2_with (go_at_call 121; refine Calls.mono (insert_val2 w _ _ _ _ (row.set i.toNat q.1) ?_ ?_ ?_ (Below.refl _ _) hj0 (Jg) (Jp) q.2 _ ?_ (Jj)) ?_; (focus (repeat (first | (with_reducible exact HB2.out) | (with_reducible exact HL2.out) | (with_reducible refine bl_alloc ?_ ?_ _) | (with_reducible refine bl_set ?_ ?_ _) | omega | (simp; omega)))); (focus (simp; omega)); (focus (refine Kd.R_below (put3Val (Kd.R_below HV.out ?_) rfl _ hi0 hi1 _ _ _) (JD (Below.refl _ _) _); repeat (first | (with_reducible exact HB2.out) | (with_reducible exact HL2.out) | (with_reducible refine bl_alloc ?_ ?_ _) | (with_reducible refine bl_set ?_ ?_ _) | omega | (simp; omega)))); (focus simp); rintro e w3 ⟨v1, rfl, hv, hb⟩; have HV3 := JN hv; have HB3 := JN hb; clear hv hb); go_ret; exact ⟨_, rfl, HV3.out, HB3.out⟩)
 focus (go_wp2_with (go_at_call 121; refine Calls.mono (insert_val2 w _ _ _ _ (row.set i.toNat q.1) ?_ ?_ ?_ (Below.refl _ _) hj0 (Jg) (Jp) q.2 _ ?_ (Jj)) ?_; (focus (repeat (first | (with_reducible exact HB2.out) | (with_reducible exact HL2.out) | (with_reducible refine bl_alloc ?_ ?_ _) | (with_reducible refine bl_set ?_ ?_ _) | omega | (simp; omega)))); (focus (simp; omega)); (focus (refine put3Val (Kd.R_below HV.out ?_) rfl _ hi0 hi1 _ _ _; repeat (first | (with_reducible exact HB2.out) | (with_reducible exact HL2.out) | (with_reducible refine bl_alloc ?_ ?_ _) | (with_reducible refine bl_set ?_ ?_ _) | omega | (simp; omega)))); (focus simp); rintro e w3 ⟨v1, rfl, hv, hb⟩; have HV3 := JN hv; have HB3 := JN hb; clear hv hb); go_ret; exact ⟨_, rfl, HV3.out, HB3.out⟩)
def atJ (i j : Int) : Int := if j < i then i - 1 else i
def glue (a sep b : ByteArray) : ByteArray := if b.toList = ([] : List UInt8) then a else a ++ (sep ++ b)
def bwdS (x : Step) (cols : List Col) (row : List Val) (i j : Int) : List Val :=
 if x.f0 = 0 then row.dropLast
 else if x.f0 = 1 then row.take i.toNat ++ [x.f6] ++ row.drop i.toNat
 else if x.f0 = 3 then row.take i.toNat ++ [cutV (glue (rdV row i).f2 x.f4 (rdV row (i + 1)).f2)] ++ row.drop (i.toNat + 2)
 else if x.f0 = 4 then (row.set (atJ i j).toNat (splitS (rdV row (atJ i j)).f2 x.f4).1).take j.toNat ++ [(splitS (rdV row (atJ i j)).f2 x.f4).2] ++ (row.set (atJ i j).toNat (splitS (rdV row (atJ i j)).f2 x.f4).1).drop j.toNat
 else if x.f0 = 5 then row.set i.toNat (convS (rdV row i) (rdC cols i).f1 ⟨(rdC cols i).f1, 0, ⟨#[]⟩⟩)
 else if x.f0 = 6 then row.set i.toNat ⟨0, IntKind.i64.wrap ((rdV row i).f1.tdiv x.f5), ⟨#[]⟩⟩
 else row
theorem bwdS_4 (A B C S : ByteArray) (N k m : Int) (s : ByteArray) (cols : List Col) (row : List Val) (i j : Int) : bwdS ⟨4, A, B, C, S, N, k, m, s⟩ cols row i j = (row.set (atJ i j).toNat (splitS (rdV row (atJ i j)).f2 S).1).take j.toNat ++ [(splitS (rdV row (atJ i j)).f2 S).2] ++ (row.set (atJ i j).toNat (splitS (rdV row (atJ i j)).f2 S).1).drop j.toNat := rfl
def bwdOk (x : Step) (cols : List Col) (row : List Val) (i j : Int) : Prop :=
 (x.f0 = 0 → 0 < row.length) ∧ (x.f0 = 1 → 0 ≤ i ∧ i ≤ row.length ∧ 0 < row.length) ∧ (x.f0 = 3 → 0 ≤ i ∧ i + 1 < row.length) ∧ (x.f0 = 4 → 0 ≤ atJ i j ∧ atJ i j < row.length ∧ 0 ≤ j ∧ j ≤ row.length)
  ∧ (x.f0 = 5 → 0 ≤ i ∧ i < row.length ∧ i < cols.length) ∧ (x.f0 = 6 → 0 ≤ i ∧ i < row.length ∧ x.f5 ≠ 0)
theorem bwd_calls (x : Step) (A0 : Option Addr) (c0 : Nat) (cols : List Col) (A1 : Option Addr) (c1 : Nat) (row : List Val) (w : World) (hr0 : Kd.C k53 w A0 cols.length cols) (hc0 : cols.length ≤ c0) (hr1 : Kd.C k27 w A1 row.length row) (hc1 : row.length ≤ c1) (hn : row.length ≤ 1000) (hG : Good w)
  (hx0 : 0 ≤ x.f0) (hx6 : x.f0 ≤ 6) (hsep : x.f4.size ≤ 1000000) (hrow : ∀ v ∈ row, okV v) (hok : bwdOk x cols row (JC cols x.f1 0) (JC cols x.f2 0)) :
  Calls Tryz.prog 65 #[.agg #[.int .i64 x.f0, .string x.f1, .string x.f2, .string x.f3, .string x.f4, .int .i64 x.f5, .int .i64 x.f6.f0, .int .i64 x.f6.f1, .string x.f6.f2], .slice A0 cols.length c0, .slice A1 row.length c1] w
   (RowR (bwdS x cols row (JC cols x.f1 0) (JC cols x.f2 0)) w) := by
 obtain ⟨op, A, B, C, S, N, k, m, s⟩ := x
 obtain ⟨k0, k1, k3, k4, k5, k6⟩ := hok
 simp only at hx0 hx6 hsep k0 k1 k3 k4 k5 k6 ⊢
 have hop : op = 0 ∨ op = 1 ∨ op = 2 ∨ op = 3 ∨ op = 4 ∨ op = 5 ∨ op = 6 := by omega
 rcases hop with h | h | h | h | h | h | h
 ·
  have := bwd_add op A B C S N k m s A0 c0 cols A1 c1 row w hr0 hc0 hr1 hc1 hn hG h _ rfl (k0 h)
  subst h; exact this
 ·
  have h2 := k1 h
  have := bwd_drop op A B C S N k m s A0 c0 cols A1 c1 row w hr0 hc0 hr1 hc1 hn hG h _ rfl h2.1 h2.2.1 h2.2.2
  subst h; exact this
 ·
  have := bwd_same op A B C S N k m s A0 c0 cols A1 c1 row w hr0 hc0 hr1 hc1 hn hG h _ rfl
  subst h; exact this
 ·
  have h2 := k3 h
  have hv := okV_at hrow h2.1 (show JC cols A 0 < row.length by omega)
  have hw := okV_at hrow (show 0 ≤ JC cols A 0 + 1 by omega) h2.2
  by_cases he : (rdV row (JC cols A 0 + 1)).f2.toList = ([] : List UInt8)
  ·
   have := bwd_split0 op A B C S N k m s A0 c0 cols A1 c1 row w hr0 hc0 hr1 hc1 hn hG h _ rfl h2.1 h2.2 hv.2.2 hw.2.2 hsep (eq_true he)
   subst h
   have e : bwdS ⟨3, A, B, C, S, N, k, m, s⟩ cols row (JC cols A 0) (JC cols B 0) = row.take (JC cols A 0).toNat ++ [cutV (rdV row (JC cols A 0)).f2] ++ row.drop ((JC cols A 0).toNat + 2) := by
    unfold bwdS glue; simp [he]
   rw [e]; exact this
  ·
   have := bwd_split1 op A B C S N k m s A0 c0 cols A1 c1 row w hr0 hc0 hr1 hc1 hn hG h _ rfl h2.1 h2.2 hv.2.2 hw.2.2 hsep (eq_false he)
   subst h
   have e : bwdS ⟨3, A, B, C, S, N, k, m, s⟩ cols row (JC cols A 0) (JC cols B 0) = row.take (JC cols A 0).toNat ++ [cutV ((rdV row (JC cols A 0)).f2 ++ (S ++ (rdV row (JC cols A 0 + 1)).f2))] ++ row.drop ((JC cols A 0).toNat + 2) := by
    unfold bwdS glue; simp [he]
   rw [e]; exact this
 ·
  have h2 := k4 h
  have hv := okV_at hrow h2.1 h2.2.1
  by_cases hj : JC cols B 0 < JC cols A 0
  ·
   have ea : atJ (JC cols A 0) (JC cols B 0) = JC cols A 0 - 1 := if_pos hj
   have h3 := h2
   rw [ea] at h3 hv
   have := bwd_join1 op A B C S N k m s A0 c0 cols A1 c1 row w hr0 hc0 hr1 hc1 hn hG h (JC cols A 0 - 1) (by omega) _ rfl h3.2.2.1 h3.2.2.2 (decide_eq_true (by omega)) h3.1 h3.2.1 hv.2.2
   subst h
   rw [bwdS_4, ea]; exact this
  ·
   have ea : atJ (JC cols A 0) (JC cols B 0) = JC cols A 0 := if_neg hj
   have h3 := h2
   rw [ea] at h3 hv
   have := bwd_join0 op A B C S N k m s A0 c0 cols A1 c1 row w hr0 hc0 hr1 hc1 hn hG h _ rfl _ rfl h3.2.2.1 h3.2.2.2 (decide_eq_false (by omega)) h3.1 h3.2.1 hv.2.2
   subst h
   rw [bwdS_4, ea]; exact this
 ·
  have h2 := k5 h
  have hv := okV_at hrow h2.1 h2.2.1
  have := bwd_retype op A B C S N k m s A0 c0 cols A1 c1 row w hr0 hc0 hr1 hc1 hn hG h _ rfl h2.1 h2.2.1 hv.1 hv.2.1 hv.2.2 h2.2.2
  subst h; exact this
 ·
  have h2 := k6 h
  have := bwd_scale op A B C S N k m s A0 c0 cols A1 c1 row w hr0 hc0 hr1 hc1 hn hG h _ rfl h2.1 h2.2.1 h2.2.2
  subst h; exact this
def ChgR (row' : List Val) (b : Bool) (w : World) (e : Ending) (w' : World) : Prop :=
 ∃ v, e = .returned (.tuple #[v, .bool b]) ∧ Kd.R k27 27 w' w.heap.size (fun _ => True) v row' ∧ Below w.heap.size w w'
theorem chgR_nil {w w' : World} (h : Below w.heap.size w w') : ChgR [] false w (.returned (.tuple #[.slice none 0 0, .bool false])) w' := ⟨_, rfl, Kd.R_nil _ _ _ _ _, h⟩
theorem default_calls (A0 : Option Addr) (c0 : Nat) (cols : List Col) (w : World) (hr0 : Kd.C k53 w A0 cols.length cols) (hc0 : cols.length ≤ c0) (hn : cols.length ≤ 1000) :
  Calls Tryz.prog 115 #[.slice A0 cols.length c0] w fun e w' => ∃ v0 : Value, e = .returned v0 ∧ Kd.R k27 27 w' w.heap.size (fun _ => True) v0 (defaultL cols) ∧ Below w.heap.size w w' := by
 obtain ⟨k, hk⟩ := ev_default cols (by omega)
 exact shape_Default.calls k A0 c0 cols _ w hr0 hc0 (hk k (Nat.le_refl _))
theorem defaultL_len (cols : List Col) : (defaultL cols).length = cols.length := by simp [defaultL]
theorem defaultL_at (cols : List Col) (i : Int) (h0 : 0 ≤ i) (h1 : i < cols.length) : rdV (defaultL cols) i = emptyV (rdC cols i).f1 := by
 have h : i.toNat < cols.length := by omega
 simp [rdV, rd_T27, rdC, JG, defaultL, List.getElem?_eq_getElem h]
theorem chg_scale (op : Int) (A B C S : ByteArray) (N k m : Int) (s : ByteArray) (A0 : Option Addr) (c0 : Nat) (cols : List Col) (w : World) (hr0 : Kd.C k53 w A0 cols.length cols) (hc0 : cols.length ≤ c0) (hn : cols.length ≤ 1000) (i : Int) (hi : JC cols A 0 = i) (hop : op = 6) (hi0 : 0 ≤ i) (hi1 : i < cols.length) (hN1 : N ≠ 1) (hN2 : N ≠ -1) :
  Calls Tryz.prog 61 #[.agg #[.int .i64 op, .string A, .string B, .string C, .string S, .int .i64 N, .int .i64 k, .int .i64 m, .string s], .slice A0 cols.length c0] w (ChgR ((defaultL cols).set i.toNat ⟨0, 9223372036854775807, ⟨#[]⟩⟩) true w) := by
 obtain rfl : op = 6 := hop
 have HR := JN hr0
 have HB0 : Jv (∀ o, Below w.heap.size w (w.alloc o)) := ⟨fun o => JD (Below.refl w.heap.size w) o⟩
 have BX0 : Jv (∀ o, (w.alloc o).heap[w.heap.size]? = some o) := ⟨fun o => heap_alloc_new w o⟩
 have HF : Jv (shape_Find.f cols A = some i) := ⟨KF⟩
 clear hi
 have DFL : Jv (∀ W, Below w.heap.size w W → Calls Tryz.prog 115 #[.slice A0 cols.length c0] W fun e w' => ∃ v0 : Value, e = .returned v0 ∧ Kd.R k27 27 w' W.heap.size (fun _ => True) v0 (defaultL cols) ∧ Below W.heap.size W w') := ⟨fun W hb => default_calls A0 c0 cols W (Kd.C_below HR.out hb) hc0 hn⟩
 have HLR := JN (defaultL_len cols)
 have hu1 := Tryz.underlying29
 have hu2 := Tryz.underlying53
 have hu3 := Tryz.underlying27
 have hn1 : (N == 1) = false := beq_eq_false_iff_ne.mpr hN1
 have hn2 : (N == -1) = false := beq_eq_false_iff_ne.mpr hN2
 clear hN1 hN2
 clear hr0
 go_enter Tryz.func61, Tryz.ntmps61
 go_wp2
 have bx1 : (w.alloc (.cells #[.int .i64 6, .string A, .string B, .string C, .string S, .int .i64 N, .int .i64 k, .int .i64 m, .string s] 29 (0, 0))).cell? ⟨w.heap.size, 1, none⟩ = some (.string A) := (Jw (BX0.out _) 1).trans rfl
 go_region_held3 (fun w' => w'.cell? ⟨w.heap.size, 1, none⟩ = some (.string A)) (first | exact bx1 | exact ybx1 | exact zbx1) (first | (go_at_call 115; refine (DFL.out _ (JH (HB0.out _))).mono ?_; rintro e wa ⟨v0, rfl, hv, hb⟩; have BXa := JN (JJ (JF (BX0.out (.cells #[.int .i64 6, .string A, .string B, .string C, .string S, .int .i64 N, .int .i64 k, .int .i64 m, .string s] 29 (0, 0)))) hb); have HBa := JN (JA (JH (HB0.out _)) (JH (HB0.out _)).size hb); have HVa : Jv (Kd.R k27 27 wa (w.heap.size + 1) (fun _ => True) v0 (defaultL cols)) := ⟨Kd.R_lower hv (by simp)⟩; have ybx1 : wa.cell? ⟨w.heap.size, 1, none⟩ = some (.string A) := (Jw BXa.out 1).trans rfl; clear hv hb) | (go_at_call 45; refine (shape_Find.calls _ _ _ _ _ _ (Kd.C_below HR.out HBa.out) hc0 HF.out).mono ?_; rintro e w1 ⟨rfl, hb⟩; have BX := JN (JJ BXa.out hb); have HB := JN (JA HBa.out HBa.out.size hb); have HV := JN (Kd.R_below HVa.out hb); have zbx1 : w1.cell? ⟨w.heap.size, 1, none⟩ = some (.string A) := (Jw BX.out 1).trans rfl; clear hb))
 have bx0 : w1.cell? ⟨w.heap.size, 0, none⟩ = some (.int .i64 6) := (Jw BX.out 0).trans rfl
 have hi1r : i < (defaultL cols).length := by rw [HLR.out]; exact hi1
 obtain ⟨g, cap, rfl, hg0, hg1, hg2⟩ := ownVal HV.out (by omega)
 have hgn : ¬ w.heap.size = g := by omega
 have hgm : ¬ g = w.heap.size := by omega
 have p := eq_true hi0
 have q := eq_true hi1r
 have qc := eq_true hi1
 have hlen1 : (defaultL cols).length ≤ 9223372036854775807 := by rw [HLR.out]; omega
 have bx5 : w1.cell? ⟨w.heap.size, 5, none⟩ = some (.int .i64 N) := (Jw BX.out 5).trans rfl
 go_wp2_with (go_at_call 110; refine (value_Int.calls _ _ _ _ _ rfl).mono ?_; rintro e w2 ⟨rfl, hb⟩; have HB2 := JN (JA HB.out HB.out.size hb); have HV2 := JN (Kd.R_below HV.out hb); have hq := getVal HV2.out rfl i hi0 hi1r 0 (by omega); have hr0 : w2.cell? ⟨g, i.toNat * 3, none⟩ = some (.int .i64 (rdV (defaultL cols) i).f0) := hq.1; have hs0 : w2.frozen? ⟨g, i.toNat * 3, none⟩ = false := hq.2; clear hq; have hq := getVal HV2.out rfl i hi0 hi1r 1 (by omega); have hr1 : w2.cell? ⟨g, i.toNat * 3 + 1, none⟩ = some (.int .i64 (rdV (defaultL cols) i).f1) := hq.1; have hs1 : w2.frozen? ⟨g, i.toNat * 3 + 1, none⟩ = false := hq.2; clear hq; have hq := getVal HV2.out rfl i hi0 hi1r 2 (by omega); have hr2 : w2.cell? ⟨g, i.toNat * 3 + 2, none⟩ = some (.string (rdV (defaultL cols) i).f2) := hq.1; have hs2 : w2.frozen? ⟨g, i.toNat * 3 + 2, none⟩ = false := hq.2; clear hq; clear hb)
 go_ret2
 exact ⟨.slice (some ⟨g, 0, none⟩) (defaultL cols).length cap, rfl, Kd.R_lower (put3Val HV2.out rfl i hi0 hi1r _ _ _) (show w.heap.size ≤ w.heap.size + 1 by omega), below3r HB2.out (show w.heap.size ≤ g by omega) _ _ _ _ _ _⟩
end Go.Proofs.YtehjelobaflheaaGreatDoor.P
