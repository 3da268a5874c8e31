/- slices.Repeat at one number: a row of that number, as often as it is asked. -/
import Derived.Test.YtciilgcinicdiaaDoorXag
import Derived.Test.YtciilgcinicdiaaDoorShelf
import Derived.Laws.CopyOwn
import Derived.Deep.RegionLaw
namespace Go.Proofs.YtciilgcinicdiaaDoor.X
open Go.RowKit Go.Shelf Go.Proofs.YtciilgcinicdiaaDoorW.PrintWords Go.Proofs.YtciilgcinicdiaaDoorW.PrintLast Go.Proofs.YtciilgcinicdiaaDoorW.PrintMore
set_option linter.unusedVariables false
set_option linter.unusedSimpArgs false

theorem rinfo3 : (Tryd.prog.info? 3).map (fun i => (i.zero, i.size, i.bytes)) = some (some (.int .i64 0), 1, 8) := by kernel_rfl
theorem rsize3 : (Tryd.prog.info? 3).map (·.size) = some 1 := by kernel_rfl
theorem bitsMulOne (m : Nat) (hm : m ≤ 1000000) (w : World) : Calls Tryd.prog 45 #[.int .u64 1, .int .u64 m] w fun e w' => e = .returned (.tuple #[.int .u64 0, .int .u64 m]) ∧ w' = w := by
  refine (Tryd.bits_Mul 1 m (by omega) (by omega) w).mono ?_
  rintro e w' ⟨rfl, rfl⟩
  have h1 : 1 * m / 18446744073709551616 = 0 := by omega
  have h2 : 1 * m % 18446744073709551616 = m := by omega
  rw [h1, h2]
  exact ⟨rfl, rfl⟩
def repRow (x : Int) (k m : Nat) : List Value := List.replicate k (.int .i64 x) ++ List.replicate (m - k) (.int .i64 0)
def repSeg (x : Int) (k : Nat) : List Value := List.replicate k (.int .i64 x)
theorem repRow_len (x : Int) (k m : Nat) (h : k ≤ m) : (repRow x k m).length = m := by simp [repRow]; omega
theorem repSeg_len (x : Int) (k : Nat) : (repSeg x k).length = k := by simp [repSeg]
theorem repSeg_one (x : Int) (k : Nat) : ∀ v ∈ repSeg x k, v.oneCell' = true := by intro v hv; rw [List.eq_of_mem_replicate hv]; rfl
theorem repRow_splice (x : Int) (k c m : Nat) (h : k + c ≤ m) : splice (repRow x k m) k (repSeg x c) = repRow x (k + c) m := by
  unfold splice repRow repSeg
  rw [List.take_left' (by simp), List.length_replicate, List.drop_append, List.drop_eq_nil_of_le (by simp), List.nil_append, List.drop_replicate, ← List.append_assoc, List.replicate_append_replicate]
  congr 2
  simp; omega
theorem repRow_get (x : Int) (k m j : Nat) (h : j < k) : (repRow x k m)[j]? = some (.int .i64 x) := by
  rw [repRow, List.getElem?_append_left (by simpa using h), List.getElem?_replicate, if_pos h]
theorem repSeg_get (x : Int) (k j : Nat) (v : Value) (h : (repSeg x k)[j]? = some v) : j < k ∧ v = .int .i64 x := by
  rw [repSeg, List.getElem?_replicate] at h
  split at h
  · exact ⟨by assumption, by injection h with h; exact h.symm⟩
  · cases h
theorem repMade (x : Int) (m : Nat) : madeCells #[Value.int .i64 0] m = (repRow x 0 m).toArray := by
  apply Array.ext
  · simp [madeCells, repRow]
  · intro i h1 h2
    simp [madeCells, repRow, Nat.mod_one]
theorem rcell_row {w : World} {g : Nat} {l : List Value} {t : TypeId} (h : w.heap[g]? = some (.cells l.toArray t (0, 0))) (j : Nat) (u : Value) (hu : l[j]? = some u) : w.cell? ⟨g, j, none⟩ = some u := by
  simp [World.cell?, h, hu]

set_option maxRecDepth 100000 in
set_option maxHeartbeats 2000000 in
theorem repeat_walk (x : Int) (m : Nat) (hm0 : 0 < m) (hm : m ≤ 1000000) (b : Nat) (w : World) (hcell : w.cell? ⟨b, 0, none⟩ = some (.int .i64 x)) :
    Calls Tryd.prog 35 #[.slice (some ⟨b, 0, none⟩) 1 1, .int .i64 m] w fun e w' => ∃ v : Value, e = .returned v ∧ w'.ownsRow w.heap.size 3 1 v m ((List.replicate m x).map (Value.int .i64)) ∧ Below w.heap.size w w' := by
  have hmk := print_make (P := Tryd.prog) 29 3 .i64 8 Tryd.underlying29 rinfo3 (by omega) m (by omega)
  rw [repMade x m] at hmk
  have hb := World.block_lt_of_cell? w _ hcell
  have HC := Aside0.mk hcell
  have HM := Aside0.mk (fun W => bitsMulOne m hm W)
  clear hcell
  have hlen1 : (repSeg x 1).length = Nat.min 1 m := by rw [repSeg_len]; exact (Nat.min_eq_left hm0).symm
  have hfit1 : 0 + (repSeg x 1).length ≤ (repRow x 0 m).length := by rw [repSeg_len, repRow_len _ _ _ (by omega)]; omega
  have hsrc1 : ∀ j v, (repSeg x 1)[j]? = some v → (w.alloc (.cells (repRow x 0 m).toArray 3)).cell? ((⟨b, 0, none⟩ : Addr).add j) = some v := by
    intro j v hj
    obtain ⟨hj1, rfl⟩ := repSeg_get _ _ _ _ hj
    obtain rfl : j = 0 := by omega
    exact pw_cell_below (below_alloc (Below.refl _ _) _) HC.out
  replace hlen1 := Aside0.mk hlen1
  replace hfit1 := Aside0.mk hfit1
  replace hsrc1 := Aside0.mk hsrc1
  go_enter Tryd.func35, Tryd.ntmps35
  go_wp2_with fail
  refine (HM.out _).mono ?_
  rintro e w1 ⟨rfl, rfl⟩
  go_wp2_with ((with_reducible refine gate_dst (N := 33) rfl ?_); go_loud (refine wpList_copy_splice rfl (.tmp 31) (.tmp 32) 29 29 rfl 3 Tryd.underlying29 rsize3 _ _ _ _ _ _ rfl rfl w1.heap.size 0 (repRow x 0 m) 3 (heap_alloc_new _ _) (repSeg x 1) hlen1.out (fun _ => ⟨rfl, _, rfl, fun j v hj => hsrc1.out j v hj⟩) hfit1.out (repSeg_one _ _) w1.heap.size w1 ((Below.refl _ _).alloc (Nat.le_refl _) _) (Nat.le_refl _) ?_); intro w2 hg2 hb2; have HG2 := Aside0.mk hg2; clear hg2; rw [repSeg_len])
  have HG : Aside0 (w2.heap[w1.heap.size]? = some (.cells (repRow x 1 m).toArray 3 (0, 0))) := ⟨by have h := HG2.out.out; rwa [repRow_splice _ 0 1 m (by omega)] at h⟩
  clear HG2 hmk hlen1 hfit1 hsrc1 HM HC
  go_loopw [8] (fun n wr => ∃ k : Nat, n = .int .i64 k ∧ 1 ≤ k ∧ k ≤ m ∧ Aside0 (wr.heap[w1.heap.size]? = some (.cells (repRow x k m).toArray 3 (0, 0))) ∧ Below w1.heap.size w1 wr) (fun n _ => m - (intOf n).toNat)
  case atStart => exact ⟨1, rfl, by omega, by omega, HG, hb2⟩
  case round =>
    obtain ⟨k, rfl, hk1, hkm, HK, hbr⟩ := hrel
    clear HG hb2
    by_cases hlt : k < m
    · obtain ⟨c, hc⟩ : ∃ c, c = min k (m - k) := ⟨_, rfl⟩
      have hc1 : c ≤ k := by omega
      have hc2 : k + c ≤ m := by omega
      have hc3 : 1 ≤ c := by omega
      have hlen : Aside0 ((repSeg x c).length = Nat.min k (m - k)) := ⟨by rw [repSeg_len]; exact hc⟩
      have hfit : Aside0 (k + (repSeg x c).length ≤ (repRow x k m).length) := ⟨by rw [repSeg_len, repRow_len _ _ _ (by omega)]; exact hc2⟩
      have hsrc : Aside0 (∀ W : World, W.heap[w1.heap.size]? = some (.cells (repRow x k m).toArray 3 (0, 0)) → ∀ j v, (repSeg x c)[j]? = some v → W.cell? ((⟨w1.heap.size, 0, none⟩ : Addr).add j) = some v) := ⟨fun W hW j v hj => by
        obtain ⟨hj1, rfl⟩ := repSeg_get _ _ _ _ hj
        rw [add_plain]
        exact rcell_row hW _ _ (repRow_get _ _ _ _ (by omega))⟩
      clear hc
      have hne : (m = k) = False := eq_false (by omega)
      go_wp2_with fail
      go_region_law (refine step_copy_splice rfl (.tmp 41) (.tmp 44) 29 29 rfl 3 Tryd.underlying29 rsize3 (some ⟨w1.heap.size, k, none⟩) (some ⟨w1.heap.size, 0, none⟩) (m - k) (m - k) k m (by simp [Act.eval, Act.put, hne]) (by simp [Act.eval, Act.put]) w1.heap.size k (repRow x k m) 3 HK.out (repSeg x c) hlen.out (fun _ => ⟨rfl, _, rfl, hsrc.out _ HK.out⟩) hfit.out (repSeg_one _ _) w1.heap.size w1 hbr.drew (Nat.le_refl _) ?_; intro w3 hg3 hb3; have HG3 := Aside0.mk hg3; clear hg3; rw [repSeg_len])
      have hw : IntKind.i64.wrap ((k : Int) + (c : Int)) = ((k + c : Nat) : Int) := by unfold IntKind.wrap; simp [IntKind.signed, IntKind.bits]; omega
      have HG4 : Aside0 (w3.heap[w1.heap.size]? = some (.cells (repRow x (k + c) m).toArray 3 (0, 0))) := ⟨by have h := HG3.out.out; rwa [repRow_splice _ k c m hc2] at h⟩
      rw [hw]
      simp only [List.getElem_toArray, List.getElem_cons_zero, List.getElem_cons_succ, Act.put, List.setIfInBounds_toArray, List.set_cons_zero, List.set_cons_succ]
      go_wp2
      go_roundw
      case rel => exact ⟨k + c, rfl, by omega, hc2, HG4, hb3⟩
      case measure => simp [intOf]; omega
    · obtain rfl : k = m := by omega
      go_wp2
      go_ret
      refine ⟨_, rfl, ⟨by simp, .inr ⟨_, _, _, rfl, Nat.le_refl _, HK.out, Nat.le_refl _, by simp only [maxLen]; omega, by simp [repRow], ?_⟩⟩, hbr⟩
      simp [repRow]

set_option maxRecDepth 100000 in
set_option maxHeartbeats 2000000 in
theorem repeat_none (b : Nat) (w : World) :
    Calls Tryd.prog 35 #[.slice (some ⟨b, 0, none⟩) 1 1, .int .i64 0] w fun e w' => ∃ v : Value, e = .returned v ∧ w'.ownsRow w.heap.size 3 1 v 0 [] ∧ Below w.heap.size w w' := by
  have hmk : ∀ W : World, (Instr.makeSlice 29 (.int .i64 0) (.int .i64 0)).run Tryd.prog W = .ok (.slice (some ⟨W.heap.size, 0, none⟩) 0 0) (W.alloc (.cells (madeCells #[.int .i64 0] 0) 3)) := fun W => print_make (P := Tryd.prog) 29 3 .i64 8 Tryd.underlying29 rinfo3 (by omega) 0 (by omega) W
  simp only [repMade 0 0] at hmk
  have HM := Aside0.mk (fun W => bitsMulOne 0 (by omega) W)
  go_enter Tryd.func35, Tryd.ntmps35
  go_wp2_with fail
  refine (HM.out _).mono ?_
  rintro e w1 ⟨rfl, rfl⟩
  go_wp2_with ((with_reducible refine gate_dst (N := 33) rfl ?_); refine wpList_copy_nothing rfl (.tmp 31) (.tmp 32) 29 29 rfl 3 Tryd.underlying29 rsize3 _ _ _ _ _ _ rfl rfl rfl ?_)
  refine wp_loop_rounds 1 ?_
  rw [rounds_succ]
  go_wp2
  go_ret
  exact ⟨_, rfl, ⟨rfl, .inr ⟨_, _, _, rfl, Nat.le_refl _, heap_alloc_new _ _, Nat.le_refl _, by simp [maxLen], by simp [repRow], rfl⟩⟩, (Below.refl _ _).alloc (Nat.le_refl _) _⟩
end Go.Proofs.YtciilgcinicdiaaDoor.X
