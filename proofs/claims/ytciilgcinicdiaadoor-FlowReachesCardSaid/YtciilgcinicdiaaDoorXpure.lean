/- Plain Lean: what flow's functions and the reference's compute. -/
import Derived.Test.YtciilgcinicdiaaDoorXflowC
import Derived.Test.YtciilgcinicdiaaDoorXadist
import Derived.Test.YtciilgcinicdiaaDoorXsecateurref01
import Derived.Test.YtciilgcinicdiaaDoorXsecateurlaw14
namespace Go.Proofs.YtciilgcinicdiaaDoor.X
open Go.RowKit Go.Proofs.YtciilgcinicdiaaDoorW.PrintWords Go.Proofs.YtciilgcinicdiaaDoorW.PrintLast Go.Proofs.YtciilgcinicdiaaDoorW.PrintMore
set_option linter.unusedVariables false
set_option linter.unusedSimpArgs false

/-! ### from some number of rounds on -/
def Ev {α : Type} (F : Nat → Option α) (a : α) : Prop := ∃ K, ∀ k, K ≤ k → F k = some a
theorem Ev.pure {α : Type} (a : α) : Ev (fun _ => some a) a := ⟨0, fun _ _ => rfl⟩
theorem Ev.of {α : Type} {F : Nat → Option α} {a : α} (h : ∀ k, F k = some a) : Ev F a := ⟨0, fun k _ => h k⟩
theorem Ev.bind {α β : Type} {F : Nat → Option α} {G : Nat → α → Option β} {a : α} {b : β} (h : Ev F a) (h2 : Ev (fun k => G k a) b) : Ev (fun k => (F k).bind (G k)) b := by
  obtain ⟨K, hK⟩ := h
  obtain ⟨L, hL⟩ := h2
  refine ⟨max K L, fun k hk => ?_⟩
  show (F k).bind (G k) = some b
  rw [hK k (by omega)]
  exact hL k (by omega)
theorem Ev.cbind {α β : Type} {x : Option α} {G : Nat → α → Option β} {a : α} {b : β} (h : x = some a) (h2 : Ev (fun k => G k a) b) : Ev (fun k => x.bind (G k)) b := by
  subst h
  exact h2
theorem Ev.succ {α : Type} {F G : Nat → Option α} {a : α} (hs : ∀ k, F (k + 1) = G k) (h : Ev G a) : Ev F a := by
  obtain ⟨K, hK⟩ := h
  refine ⟨K + 1, fun k hk => ?_⟩
  obtain ⟨k, rfl⟩ : ∃ j, k = j + 1 := ⟨k - 1, by omega⟩
  rw [hs]
  exact hK k (by omega)
theorem Ev.eq {α : Type} {F G : Nat → Option α} {a : α} (hs : ∀ k, F k = G k) (h : Ev G a) : Ev F a := by
  obtain ⟨K, hK⟩ := h
  exact ⟨K, fun k hk => (hs k).trans (hK k hk)⟩
theorem Ev.get {α : Type} {F : Nat → Option α} {a : α} (h : Ev F a) : ∃ k, F k = some a := by
  obtain ⟨K, hK⟩ := h
  exact ⟨K, hK K (Nat.le_refl _)⟩
theorem Ev.pos {α : Type} {c : Prop} [Decidable c] {F G : Nat → Option α} {a : α} (hc : c) (h : Ev F a) : Ev (fun k => if c then F k else G k) a := Ev.eq (fun k => if_pos hc) h
theorem Ev.neg {α : Type} {c : Prop} [Decidable c] {F G : Nat → Option α} {a : α} (hc : ¬ c) (h : Ev G a) : Ev (fun k => if c then F k else G k) a := Ev.eq (fun k => if_neg hc) h

theorem wrapS {a : Int} (h0 : -9223372036854775808 ≤ a) (h1 : a ≤ 9223372036854775807) : wrap64 a = a := IntWalk.wrap64_in a ⟨h0, h1⟩

/-! ### one instruction -/
def hasT (o : Int) : Bool := o == 6 || o == 7 || o == 8
def fallsB (o : Int) : Bool := decide (1 ≤ o) && decide (o ≤ 32) && !(o == 6) && !(o == 22) && !(o == 23) && !(o == 30)
def tgt (o k : Int) : Int × Bool := if hasT o = true ∧ 0 ≤ k ∧ k ≤ 256 then (k, true) else (0, false)
theorem tgt_pos (o k : Int) : 0 ≤ (tgt o k).1 := by
  unfold tgt
  split
  · rename_i h; exact h.2.1
  · exact Int.le_refl 0
theorem shapes_fin : ∀ i : Fin 33, strings_Contains.f (rdOf ByteArray.empty opShapes (i.val : Int)) ⟨#[116]⟩ = some (hasT (i.val : Int)) ∧ op_hasAny.f (rdOf ByteArray.empty opShapes (i.val : Int)) ⟨#[116]⟩ = some (hasT (i.val : Int)) := by decide +kernel
theorem shape_t (o : Int) : ∃ s, op_Shape.f o = some s ∧ strings_Contains.f s ⟨#[116]⟩ = some (hasT o) ∧ op_hasAny.f s ⟨#[116]⟩ = some (hasT o) := by
  by_cases h : o > 0 ∧ o ≤ 32
  · refine ⟨rdOf ByteArray.empty opShapes o, by simp [op_Shape.f, h.1, h.2], ?_⟩
    have := shapes_fin ⟨o.toNat, by omega⟩
    simp only [show ((o.toNat : Nat) : Int) = o by omega] at this
    exact this
  · refine ⟨⟨#[]⟩, by simp [op_Shape.f, h], ?_⟩
    have : hasT o = false := by
      simp only [hasT, Bool.or_eq_false_iff, beq_eq_false_iff_ne]
      omega
    rw [this]
    exact ⟨by decide +kernel, by decide +kernel⟩
theorem op_Target_eq (a0 a1 a2 a3 a4 : Int) (s5 s6 s7 : ByteArray) (l8 : List Int) : op_Target.f a0 a1 a2 a3 a4 s5 s6 s7 l8 = some (tgt a0 a4) := by
  obtain ⟨s, h1, _, h3⟩ := shape_t a0
  unfold op_Target.f op_has.f tgt
  rw [h1]
  simp only [Option.bind_some, h3]
  cases hasT a0
  · simp
  · by_cases h4 : a4 < 0
    · rw [if_pos rfl, if_pos h4, if_neg (fun h => by omega)]
    · by_cases h5 : a4 > 256
      · rw [if_pos rfl, if_neg h4, if_pos h5, if_neg (fun h => by omega)]
      · rw [if_pos rfl, if_neg h4, if_neg h5, if_pos ⟨rfl, by omega, by omega⟩]
theorem op_right_eq (o : Int) : op_right.f o = some (decide (1 ≤ o) && decide (o ≤ 32)) := by
  unfold op_right.f
  by_cases h : o > 0
  · rw [if_pos h, decide_eq_true (show 1 ≤ o by omega)]; simp
  · rw [if_neg h, decide_eq_false (show ¬ 1 ≤ o by omega)]; simp
theorem op_Falls_eq (o : Int) : op_Falls.f o = some (fallsB o) := by
  unfold op_Falls.f fallsB
  rw [op_right_eq]
  by_cases h6 : o = 6
  · subst h6; rfl
  by_cases h22 : o = 22
  · subst h22; rfl
  by_cases h23 : o = 23
  · subst h23; rfl
  by_cases h30 : o = 30
  · subst h30; rfl
  have e (a b : Int) (h : ¬ a = b) : (a == b) = false := beq_eq_false_iff_ne.mpr h
  rw [if_neg h6, if_neg h22, if_neg h23, if_neg h30, e _ _ h6, e _ _ h22, e _ _ h23, e _ _ h30]
  simp

/-! ### where it goes on -/
def opAt (l : List S36) (i : Int) : Int := (rd_T36 l i).f0
def kAt (l : List S36) (i : Int) : Int := (rd_T36 l i).f4
def jumpAt (l : List S36) (i : Int) : Int × Bool := ((tgt (opAt l i) (kAt l i)).1, (tgt (opAt l i) (kAt l i)).2 && decide ((tgt (opAt l i) (kAt l i)).1 < (l.length : Int)))
def fallAt (l : List S36) (i : Int) : Bool := fallsB (opAt l i) && decide (i + 1 < (l.length : Int))
theorem falls_eq {l : List S36} (hl : l.length ≤ 1000) {i : Int} (h0 : 0 ≤ i) (h1 : i < (l.length : Int)) : flow_falls.f l i = some (fallAt l i) := by
  unfold flow_falls.f fallAt opAt
  rw [if_pos h0, if_pos h1, op_Falls_eq, wrapS (by omega) (by omega)]
  cases fallsB (rd_T36 l i).f0 <;> simp
theorem target_eq {l : List S36} {i : Int} (h0 : 0 ≤ i) (h1 : i < (l.length : Int)) : flow_target.f l i = some (jumpAt l i) := by
  unfold flow_target.f jumpAt opAt kAt
  rw [if_pos h0, if_pos h1, op_Target_eq]
  simp only [Option.bind_some]
  cases h : (tgt (rd_T36 l i).f0 (rd_T36 l i).f4).2 <;> simp
theorem jumpAt_pos (l : List S36) (i : Int) : 0 ≤ (jumpAt l i).1 := tgt_pos _ _
theorem jumpAt_lt {l : List S36} {i : Int} (h : (jumpAt l i).2 = true) : (jumpAt l i).1 < (l.length : Int) := by
  simp only [jumpAt, Bool.and_eq_true, decide_eq_true_eq] at h ⊢
  exact h.2
def nxt2 (f j : Bool) (a t : Int) : List Int := (if j && (!f || decide (t < a)) then [t] else []) ++ (if f then [a] else []) ++ (if j && f && decide (t > a) then [t] else [])
def nxt (l : List S36) (i : Int) : List Int := if 0 ≤ i ∧ i < (l.length : Int) then nxt2 (fallAt l i) (jumpAt l i).2 (i + 1) (jumpAt l i).1 else []
theorem compact_one (a : Int) : Lib.compact [a] = [a] := rfl
theorem compact_two (a b : Int) : Lib.compact [a, b] = if a = b then [a] else [a, b] := by
  unfold Lib.compact Lib.compactUpTo
  by_cases h : a = b
  · subst h
    have h0 : Lib.keeps #[a, a] 0 = true := by simp [Lib.keeps]
    have h1 : Lib.keeps #[a, a] 1 = false := by simp [Lib.keeps]
    simp [List.range_succ, h0, h1]
  · have h0 : Lib.keeps #[a, b] 0 = true := by simp [Lib.keeps]
    have h1 : Lib.keeps #[a, b] 1 = true := by simp [Lib.keeps]; exact fun e => h e.symm
    simp [List.range_succ, h0, h1, h]
theorem nextL_eq (f j : Bool) (i t : Int) : nextL f i t j = nxt2 f j (i + 1) t := by
  unfold nextL goesL nxt2
  cases f <;> cases j
  · simp [List.mergeSort]; rfl
  · simp [List.mergeSort]; rfl
  · simp [List.mergeSort]; rfl
  · have hs : [i + 1, t].mergeSort (fun x y => decide (x ≤ y)) = if i + 1 ≤ t then [i + 1, t] else [t, i + 1] := by
      simp [List.mergeSort, List.MergeSort.Internal.splitInTwo, List.splitAt, List.splitAt.go, List.merge]
    have : (if true = true then [i + 1] else []) ++ (if true = true then [t] else []) = [i + 1, t] := rfl
    rw [this, hs]
    by_cases h : i + 1 ≤ t
    · rw [if_pos h, compact_two]
      by_cases h2 : i + 1 = t
      · subst h2; simp
      · rw [if_neg h2]
        have h3 : ¬ t < i + 1 := by omega
        have h4 : t > i + 1 := by omega
        simp [h3, h4]
    · rw [if_neg h, compact_two]
      have h2 : ¬ t = i + 1 := by omega
      rw [if_neg h2]
      have h3 : t < i + 1 := by omega
      have h4 : ¬ t > i + 1 := by omega
      simp [h3, h4]
theorem Next_eq {l : List S36} (hl : l.length ≤ 1000) (i : Int) : flow_Next.f l i = some (nxt l i) := by
  unfold flow_Next.f nxt
  by_cases h0 : 0 ≤ i
  · by_cases h1 : i < (l.length : Int)
    · rw [if_pos h0, if_pos h1, if_pos ⟨h0, h1⟩, falls_eq hl h0 h1, target_eq h0 h1]
      simp only [Option.bind_some]
      rw [nextL_eq]
    · rw [if_pos h0, if_neg h1, if_neg (fun h => h1 h.2)]
  · rw [if_neg h0, if_neg (fun h => h0 h.1)]
theorem nxt_len (l : List S36) (i : Int) : (nxt l i).length ≤ 3 := by
  unfold nxt nxt2
  split
  · cases fallAt l i <;> cases (jumpAt l i).2 <;> simp <;> (repeat' split) <;> simp
  · simp
theorem nxt_mem {l : List S36} {i x : Int} (h : x ∈ nxt l i) : 0 ≤ x ∧ x < (l.length : Int) := by
  unfold nxt at h
  split at h
  · rename_i hi
    unfold nxt2 at h
    simp only [List.mem_append] at h
    rcases h with (h | h) | h
    · split at h
      · rename_i hc
        have : x = (jumpAt l i).1 := by simpa using h
        subst this
        simp only [Bool.and_eq_true] at hc
        exact ⟨jumpAt_pos l i, jumpAt_lt hc.1⟩
      · cases h
    · split at h
      · rename_i hc
        have : x = i + 1 := by simpa using h
        subst this
        simp only [fallAt, Bool.and_eq_true, decide_eq_true_eq] at hc
        exact ⟨by omega, hc.2⟩
      · cases h
    · split at h
      · rename_i hc
        have : x = (jumpAt l i).1 := by simpa using h
        subst this
        simp only [Bool.and_eq_true] at hc
        exact ⟨jumpAt_pos l i, jumpAt_lt hc.1.1⟩
      · cases h
  · cases h

/-! ### the same numbers -/
theorem sameInts_go (xs : List Int) (hl : xs.length ≤ 1000000) : ∀ (m : Nat) (i : Int), 0 ≤ i → (xs.length : Int) - i ≤ m → i ≤ (xs.length : Int) → Ev (fun k => secateurref01_SameInts.l0 k xs xs i) true
  | 0, i, h0, h1, h2 => Ev.succ (fun k => by rw [secateurref01_SameInts.l0]) (Ev.neg (by omega) (Ev.pure _))
  | m + 1, i, h0, h1, h2 => by
    refine Ev.succ (fun k => by rw [secateurref01_SameInts.l0]) ?_
    by_cases h3 : i < (xs.length : Int)
    · refine Ev.pos h3 (Ev.pos h0 (Ev.pos h3 (Ev.pos rfl ?_)))
      rw [wrapS (by omega) (by omega)]
      exact sameInts_go xs hl m (i + 1) (by omega) (by omega) (by omega)
    · exact Ev.neg h3 (Ev.pure _)
theorem sameInts (xs : List Int) (hl : xs.length ≤ 1000000) : Ev (fun k => secateurref01_SameInts.f k xs xs) true := by
  refine Ev.eq (fun k => by unfold secateurref01_SameInts.f; rw [if_pos rfl]) ?_
  exact sameInts_go xs hl xs.length 0 (by omega) (by omega) (by omega)

/-! ### from where it comes -/
def upTo (n : Nat) : List Int := (List.range n).map Int.ofNat
def backL (l : List S36) (x : Int) : List Int := (upTo l.length).filter (fun j => decide (x ∈ nxt l j))
theorem index_go (xs : List Int) (x : Int) (hl : xs.length ≤ 1000000) : ∀ (m : Nat) (i : Int), 0 ≤ i → (xs.length : Int) - i ≤ m → i ≤ (xs.length : Int) → (∀ j : Nat, (j : Int) < i → xs[j]? ≠ some x) → ∃ r, Ev (fun k => slices_Index_int_int.l0 k xs x (xs.length : Int) i) r ∧ (r ≥ 0 ↔ x ∈ xs)
  | 0, i, h0, h1, h2, hb => ⟨-1, Ev.succ (fun k => by rw [slices_Index_int_int.l0]) (Ev.neg (by omega) (Ev.pure _)), by
      refine ⟨fun h => absurd h (by decide), fun h => ?_⟩
      obtain ⟨j, hj, he⟩ := List.mem_iff_getElem.1 h
      exact absurd (by rw [List.getElem?_eq_getElem hj, he]) (hb j (by omega))⟩
  | m + 1, i, h0, h1, h2, hb => by
    by_cases h3 : i < (xs.length : Int)
    · have hg : xs[i.toNat]? = some (rd xs i) := by
        show _ = some (xs.getD i.toNat 0)
        rw [List.getD_eq_getElem?_getD, List.getElem?_eq_getElem (by omega)]; rfl
      by_cases h4 : x = rd xs i
      · refine ⟨i, Ev.succ (fun k => by rw [slices_Index_int_int.l0]) (Ev.pos h3 (Ev.pos h0 (Ev.pos h3 (Ev.pos h4 (Ev.pure _))))), ?_⟩
        refine ⟨fun _ => ?_, fun _ => h0⟩
        rw [h4]
        exact List.mem_of_getElem? hg
      · obtain ⟨r, hr, hm⟩ := index_go xs x hl m (i + 1) (by omega) (by omega) (by omega) (fun j hj => by
          by_cases hji : (j : Int) < i
          · exact hb j hji
          · have : j = i.toNat := by omega
            subst this
            rw [hg]
            intro e; exact h4 (Option.some.inj e).symm)
        refine ⟨r, Ev.succ (fun k => by rw [slices_Index_int_int.l0]) (Ev.pos h3 (Ev.pos h0 (Ev.pos h3 (Ev.neg h4 ?_)))), hm⟩
        rw [wrapS (by omega) (by omega)]
        exact hr
    · exact ⟨-1, Ev.succ (fun k => by rw [slices_Index_int_int.l0]) (Ev.neg h3 (Ev.pure _)), by
        refine ⟨fun h => absurd h (by decide), fun h => ?_⟩
        obtain ⟨j, hj, he⟩ := List.mem_iff_getElem.1 h
        exact absurd (by rw [List.getElem?_eq_getElem hj, he]) (hb j (by omega))⟩
theorem contains_eq (xs : List Int) (x : Int) (hl : xs.length ≤ 1000000) : Ev (fun k => slices_Contains_int_int.f k xs x) (decide (x ∈ xs)) := by
  obtain ⟨r, hr, hm⟩ := index_go xs x hl xs.length 0 (by omega) (by omega) (by omega) (fun j hj => by omega)
  refine Ev.eq (fun k => rfl) (Ev.bind (F := fun k => slices_Index_int_int.f k xs x) (G := fun k t => some (decide (t ≥ 0))) hr (Ev.of fun k => ?_))
  rw [decide_eq_decide.2 hm]
theorem upTo_succ (n : Nat) : upTo (n + 1) = upTo n ++ [(n : Int)] := by simp [upTo, List.range_succ]
theorem upTo_len (n : Nat) : (upTo n).length = n := by simp [upTo]
theorem upTo_mem {n : Nat} {x : Int} : x ∈ upTo n ↔ 0 ≤ x ∧ x < (n : Int) := by
  simp only [upTo, List.mem_map, List.mem_range]
  constructor
  · rintro ⟨a, ha, rfl⟩; exact ⟨Int.natCast_nonneg a, Int.ofNat_lt.2 ha⟩
  · rintro ⟨h0, h1⟩; exact ⟨x.toNat, by omega, Int.toNat_of_nonneg h0⟩
theorem filter_upTo_len (n : Nat) (p : Int → Bool) : ((upTo n).filter p).length ≤ n := Nat.le_trans (List.length_filter_le _ _) (by rw [upTo_len]; exact Nat.le_refl _)
theorem back_go {l : List S36} (hl : l.length ≤ 1000) (x : Int) : ∀ (m i : Nat), l.length - i ≤ m → i ≤ l.length → Ev (fun k => flow_Back.l0 k l x ((upTo i).filter (fun j => decide (x ∈ nxt l j))) (l.length : Int) (i : Int)) ((upTo l.length).filter (fun j => decide (x ∈ nxt l j)))
  | 0, i, h1, h2 => by
    obtain rfl : i = l.length := by omega
    exact Ev.succ (fun k => by rw [flow_Back.l0]) (Ev.neg (by omega) (Ev.pure _))
  | m + 1, i, h1, h2 => by
    by_cases h3 : i < l.length
    · refine Ev.succ (fun k => by rw [flow_Back.l0]) (Ev.pos (by omega) (Ev.cbind (Next_eq hl _) (Ev.bind (contains_eq _ _ (Nat.le_trans (nxt_len _ _) (by omega))) ?_)))
      have hw : wrap64 ((i : Int) + 1) = ((i + 1 : Nat) : Int) := by rw [wrapS (by omega) (by omega)]; omega
      have ih := back_go hl x m (i + 1) (by omega) (by omega)
      rw [upTo_succ, List.filter_append] at ih
      rw [hw]
      by_cases h4 : x ∈ nxt l (i : Int)
      · refine Ev.pos (by simpa using h4) (Ev.pos (by have := filter_upTo_len i (fun j => decide (x ∈ nxt l j)); omega) ?_)
        simpa [h4] using ih
      · refine Ev.neg (by simpa using h4) ?_
        simpa [h4] using ih
    · obtain rfl : i = l.length := by omega
      exact Ev.succ (fun k => by rw [flow_Back.l0]) (Ev.neg (by omega) (Ev.pure _))
theorem Back_eq {l : List S36} (hl : l.length ≤ 1000) (x : Int) : Ev (fun k => flow_Back.f k l x) (backL l x) := by
  exact Ev.eq (fun k => rfl) (back_go hl x l.length 0 (by omega) (by omega))

/-! ### few -/
def fewL (l : List S36) : List S36 := l.take 40
theorem few_eq (l : List S36) : secateurlaw14_few.f l = some (fewL l) := by
  unfold secateurlaw14_few.f fewL
  by_cases h : (l.length : Int) > 40
  · rw [if_pos h, if_pos (by omega)]
  · rw [if_neg h, List.take_of_length_le (by omega)]
theorem few_len (l : List S36) : (fewL l).length ≤ 40 := by simp [fewL]; omega
end Go.Proofs.YtciilgcinicdiaaDoor.X
