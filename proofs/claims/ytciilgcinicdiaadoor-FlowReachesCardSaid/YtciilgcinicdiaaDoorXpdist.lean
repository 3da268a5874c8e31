/- Plain Lean: by how few steps each place is reached: what flow.Dist gives. -/
import Derived.Test.YtciilgcinicdiaaDoorXpuref
namespace Go.Proofs.YtciilgcinicdiaaDoor.X
open Go.RowKit Go.Proofs.YtciilgcinicdiaaDoorW.PrintWords Go.Proofs.YtciilgcinicdiaaDoorW.PrintLast Go.Proofs.YtciilgcinicdiaaDoorW.PrintMore
set_option linter.unusedVariables false
set_option linter.unusedSimpArgs false

def In (l : List S36) (v : Int) : Prop := 0 ≤ v ∧ v < (l.length : Int)
def PredOk (l : List S36) (out : List Int) (v : Int) : Prop := (v = 0 ∧ rd out v = 0) ∨ (0 < rd out v ∧ ∃ u, In l u ∧ v ∈ nxt l u ∧ rd out u = rd out v - 1)
def EdgeOk (l : List S36) (out : List Int) (u : Int) : Prop := ∀ x ∈ nxt l u, 0 ≤ rd out x ∧ rd out x ≤ rd out u + 1
/-- what the numbers of steps are. -/
structure Dst (l : List S36) (out : List Int) : Prop where
  len : out.length = l.length
  lo : ∀ v, In l v → -1 ≤ rd out v
  hi : ∀ v, In l v → rd out v ≤ (l.length : Int)
  edge : ∀ u, In l u → 0 ≤ rd out u → EdgeOk l out u
  pred : ∀ v, In l v → 0 ≤ rd out v → PredOk l out v
  zero : 0 < l.length → rd out 0 = 0

theorem rd_set {out : List Int} {t v x : Int} (h0 : 0 ≤ t) (h1 : t < (out.length : Int)) (hv : 0 ≤ v) : rd (out.set t.toNat x) v = if v = t then x else rd out v := by
  show (out.set t.toNat x).getD v.toNat 0 = _
  rw [List.getD_eq_getElem?_getD, List.getElem?_set]
  by_cases h : v = t
  · subst h
    rw [if_pos rfl, if_pos rfl, if_pos (by omega)]; rfl
  · rw [if_neg (by omega), if_neg h]
    show _ = out.getD v.toNat 0
    rw [List.getD_eq_getElem?_getD]
theorem filter_less {p q : Int → Bool} {t : Int} (hp : p t = true) (hq : ∀ v, q v = (p v && !decide (v = t))) : ∀ n : Nat, 0 ≤ t → t < (n : Int) → ((upTo n).filter q).length + 1 = ((upTo n).filter p).length
  | 0, _, h => by omega
  | n + 1, h0, h1 => by
    rw [upTo_succ, List.filter_append, List.filter_append, List.length_append, List.length_append]
    by_cases h : (n : Int) = t
    · have e : (upTo n).filter q = (upTo n).filter p := by
        apply List.filter_congr
        intro v hv
        have := (upTo_mem.1 hv).2
        rw [hq, decide_eq_false (by omega)]; simp
      have a : [(n : Int)].filter q = [] := by simp [hq, h]
      have b : [(n : Int)].filter p = [(n : Int)] := by rw [h]; simp [hp]
      rw [e, a, b]; simp
    · have ih := filter_less hp hq n h0 (by omega)
      have e : [(n : Int)].filter q = [(n : Int)].filter p := by
        have : q (n : Int) = p (n : Int) := by rw [hq, decide_eq_false h]; simp
        simp [List.filter_cons, this]
      rw [e]; omega
theorem dead_set {out : List Int} {t x : Int} (h0 : 0 ≤ t) (h1 : t < (out.length : Int)) (ht : rd out t = -1) (hx : x ≠ -1) : (deadL (out.set t.toNat x)).length + 1 = (deadL out).length := by
  unfold deadL
  rw [List.length_set]
  have e : (upTo out.length).filter (fun j => decide (rd (out.set t.toNat x) j = -1)) = (upTo out.length).filter (fun j => decide (rd out j = -1) && !decide (j = t)) := by
    apply List.filter_congr
    intro v hv
    rw [rd_set h0 h1 (upTo_mem.1 hv).1]
    by_cases h : v = t
    · rw [if_pos h, decide_eq_false hx, decide_eq_true h]; simp
    · rw [if_neg h, decide_eq_false h]; simp
  rw [e]
  exact filter_less (p := fun j => decide (rd out j = -1)) (by simp [ht]) (fun _ => rfl) _ h0 h1

/-- between two rounds. -/
structure Bfs (l : List S36) (out q : List Int) (b : Int) : Prop where
  len : out.length = l.length
  lo : ∀ v, In l v → -1 ≤ rd out v
  hi : ∀ v, In l v → rd out v ≤ b
  zero : rd out 0 = 0
  qin : ∀ w ∈ q, In l w ∧ 0 ≤ rd out w
  sorted : q.Pairwise (fun a c => rd out a ≤ rd out c)
  near : ∀ v, In l v → ∀ w ∈ q, rd out v ≤ rd out w + 1
  done : ∀ u, In l u → 0 ≤ rd out u → u ∉ q → EdgeOk l out u
  pred : ∀ v, In l v → 0 ≤ rd out v → PredOk l out v
/-- within a round. -/
structure Mid (l : List S36) (at_ a0 : Int) (out q : List Int) : Prop where
  len : out.length = l.length
  lo : ∀ v, In l v → -1 ≤ rd out v
  hi : ∀ v, In l v → rd out v ≤ a0 + 1
  zero : rd out 0 = 0
  ain : In l at_
  aat : rd out at_ = a0
  a0p : 0 ≤ a0
  qin : ∀ w ∈ q, In l w ∧ a0 ≤ rd out w
  sorted : q.Pairwise (fun a c => rd out a ≤ rd out c)
  done : ∀ u, In l u → 0 ≤ rd out u → u ∉ q → u ≠ at_ → EdgeOk l out u
  pred : ∀ v, In l v → 0 ≤ rd out v → PredOk l out v

theorem visit_mid {l : List S36} (hl : l.length ≤ 1000) {at_ a0 t b : Int} {out q : List Int} (h : Mid l at_ a0 out q) (hb : a0 ≤ b) (hb2 : b ≤ 1000000) (ht : t ∈ nxt l at_) :
    ∃ s, distVisit at_ (out, q) t = some s ∧ Mid l at_ a0 s.1 s.2 ∧ 0 ≤ rd s.1 t ∧ (∀ v, In l v → 0 ≤ rd out v → rd s.1 v = rd out v) ∧ s.2.length + (deadL s.1).length = q.length + (deadL out).length := by
  have hti := nxt_mem ht
  have htl : t < (out.length : Int) := by rw [h.len]; exact hti.2
  have hal : at_ < (out.length : Int) := by rw [h.len]; exact h.ain.2
  rw [distVisit_some at_ (out, q) t hti.1 htl h.ain.1 hal]
  by_cases hm : rd out t = -1
  · rw [if_pos hm]
    have hap := h.a0p
    have hw : wrap64 (rd out at_ + 1) = a0 + 1 := by rw [h.aat]; exact wrapS (by omega) (by omega)
    refine ⟨_, rfl, ?_, ?_, ?_, ?_⟩
    · simp only [hw]
      have hne : ∀ v, 0 ≤ rd out v → v ≠ t := fun v hv e => by subst e; omega
      have keep : ∀ v, 0 ≤ v → v ≠ t → rd (out.set t.toNat (a0 + 1)) v = rd out v := fun v hv hvt => by rw [rd_set hti.1 htl hv, if_neg hvt]
      have new : rd (out.set t.toNat (a0 + 1)) t = a0 + 1 := by rw [rd_set hti.1 htl hti.1, if_pos rfl]
      have grow : ∀ u, In l u → 0 ≤ rd out u → EdgeOk l out u → EdgeOk l (out.set t.toNat (a0 + 1)) u := by
        intro u hu hu0 he x hx
        have hxi := nxt_mem hx
        obtain ⟨e1, e2⟩ := he x hx
        rw [keep x hxi.1 (hne x e1), keep u hu.1 (hne u hu0)]
        exact ⟨e1, e2⟩
      refine ⟨by rw [List.length_set]; exact h.len, fun v hv => ?_, fun v hv => ?_, ?_, h.ain, ?_, h.a0p, fun w hw => ?_, ?_, fun u hu hu0 huq hua => ?_, fun v hv hv0 => ?_⟩
      · rw [rd_set hti.1 htl hv.1]
        split
        · omega
        · exact h.lo v hv
      · rw [rd_set hti.1 htl hv.1]
        split
        · omega
        · exact h.hi v hv
      · rw [keep 0 (by omega) (hne 0 (by rw [h.zero]; omega))]; exact h.zero
      · rw [keep at_ h.ain.1 (hne at_ (by rw [h.aat]; exact h.a0p))]; exact h.aat
      · rcases List.mem_append.1 hw with hw | hw
        · obtain ⟨i1, i2⟩ := h.qin w hw
          rw [keep w i1.1 (hne w (by omega))]
          exact ⟨i1, i2⟩
        · rw [List.mem_singleton.1 hw, new]
          exact ⟨hti, by omega⟩
      · rw [List.pairwise_append]
        refine ⟨?_, List.pairwise_singleton _ _, fun a ha c hc => ?_⟩
        · refine List.Pairwise.imp_of_mem (fun {a c} ha hc hac => ?_) h.sorted
          obtain ⟨i1, i2⟩ := h.qin a ha
          obtain ⟨j1, j2⟩ := h.qin c hc
          rw [keep a i1.1 (hne a (by omega)), keep c j1.1 (hne c (by omega))]
          exact hac
        · obtain ⟨i1, i2⟩ := h.qin a ha
          rw [List.mem_singleton.1 hc, new, keep a i1.1 (hne a (by omega))]
          exact h.hi a i1
      · have hut : u ≠ t := fun e => huq (List.mem_append_right _ (by rw [e]; exact List.mem_singleton.2 rfl))
        rw [keep u hu.1 hut] at hu0
        exact grow u hu hu0 (h.done u hu hu0 (fun hm => huq (List.mem_append_left _ hm)) hua)
      · by_cases hvt : v = t
        · subst hvt
          refine .inr ⟨by rw [new]; omega, at_, h.ain, ht, ?_⟩
          rw [new, keep at_ h.ain.1 (hne at_ (by rw [h.aat]; exact h.a0p)), h.aat]; omega
        · rw [keep v hv.1 hvt] at hv0
          rcases h.pred v hv hv0 with ⟨a, c⟩ | ⟨a, u, hu, hvu, he⟩
          · exact .inl ⟨a, by rw [keep v hv.1 hvt]; exact c⟩
          · refine .inr ⟨by rw [keep v hv.1 hvt]; exact a, u, hu, hvu, ?_⟩
            rw [keep v hv.1 hvt, keep u hu.1 (hne u (by omega))]; exact he
    · simp only [hw]
      rw [rd_set hti.1 htl hti.1, if_pos rfl]; omega
    · intro v hv hv0
      simp only
      rw [rd_set hti.1 htl hv.1, if_neg (fun e => by subst e; omega)]
    · simp only [hw, List.length_append, List.length_singleton]
      have := dead_set (x := a0 + 1) hti.1 htl hm (by omega)
      omega
  · rw [if_neg hm]
    exact ⟨_, rfl, h, by have := h.lo t hti; show 0 ≤ rd out t; omega, fun v _ _ => rfl, rfl⟩
theorem visits_mid {l : List S36} (hl : l.length ≤ 1000) {at_ a0 b : Int} (hb : a0 ≤ b) (hb2 : b ≤ 1000000) : ∀ (ts : List Int) {out q : List Int}, Mid l at_ a0 out q → (∀ t ∈ ts, t ∈ nxt l at_) →
    ∃ s, distVisits at_ ts (out, q) = some s ∧ Mid l at_ a0 s.1 s.2 ∧ (∀ t ∈ ts, 0 ≤ rd s.1 t) ∧ (∀ v, In l v → 0 ≤ rd out v → rd s.1 v = rd out v) ∧ s.2.length + (deadL s.1).length = q.length + (deadL out).length
  | [], out, q, h, _ => ⟨(out, q), rfl, h, by simp, fun _ _ _ => rfl, rfl⟩
  | t :: ts, out, q, h, hts => by
    obtain ⟨⟨o1, q1⟩, h1, h2, h3, h4, h5⟩ := visit_mid hl h hb hb2 (hts t (by simp))
    obtain ⟨s, k1, k2, k3, k4, k5⟩ := visits_mid hl hb hb2 ts h2 (fun t' ht' => hts t' (List.mem_cons_of_mem _ ht'))
    refine ⟨s, ?_, k2, fun t' ht' => ?_, fun v hv hv0 => ?_, k5.trans h5⟩
    · simp only [distVisits]
      rw [h1]
      exact k1
    · rcases List.mem_cons.1 ht' with rfl | ht'
      · rw [k4 t' (nxt_mem (hts t' (by simp))) h3]; exact h3
      · exact k3 t' ht'
    · rw [k4 v hv (by rw [h4 v hv hv0]; exact hv0)]
      exact h4 v hv hv0
theorem goesL_mem {f j : Bool} {i t x : Int} : x ∈ goesL f i t j ↔ (f = true ∧ x = i + 1) ∨ (j = true ∧ x = t) := by
  unfold goesL
  cases f <;> cases j <;> simp
theorem nxt2_mem' {f j : Bool} {a t x : Int} : x ∈ nxt2 f j a t ↔ (f = true ∧ x = a) ∨ (j = true ∧ x = t) := by
  unfold nxt2
  cases f <;> cases j
  · simp
  · simp
  · simp
  · by_cases h1 : t < a
    · have h2 : ¬ t > a := by omega
      simp [h1, h2]; exact Or.comm
    · by_cases h2 : t > a
      · simp [h1, h2]
      · have h3 : t = a := by omega
        subst h3
        simp
theorem goes_nxt {l : List S36} {i x : Int} (h : In l i) : x ∈ goesL (fallAt l i) i (jumpAt l i).1 (jumpAt l i).2 ↔ x ∈ nxt l i := by
  unfold nxt
  rw [if_pos (show 0 ≤ i ∧ i < (l.length : Int) from h), goesL_mem, nxt2_mem']

theorem distL_ok {l : List S36} (hl : l.length ≤ 1000) : ∀ (k : Nat) (out q : List Int) (b : Int), Bfs l out q b → 0 ≤ b → q.length + (deadL out).length + 1 ≤ k → b + (q.length + (deadL out).length : Nat) ≤ (l.length : Int) → ∃ r, distL k l out q = some r ∧ Dst l r
  | 0, out, q, b, h, hb0, hk, hb => by omega
  | k + 1, out, [], b, h, hb0, hk, hb => ⟨out, rfl, h.len, h.lo, fun v hv => Int.le_trans (h.hi v hv) (by omega), fun u hu hu0 => h.done u hu hu0 (by simp), h.pred, fun _ => h.zero⟩
  | k + 1, out, a :: q, b, h, hb0, hk, hb => by
    obtain ⟨ha, ha0⟩ := h.qin a (by simp)
    have hm : Mid l a (rd out a) out q := by
      obtain ⟨hs1, hs2⟩ := List.pairwise_cons.1 h.sorted
      refine ⟨h.len, h.lo, fun v hv => h.near v hv a (by simp), h.zero, ha, rfl, ha0, fun w hw => ⟨(h.qin w (List.mem_cons_of_mem _ hw)).1, hs1 w hw⟩, hs2, fun u hu hu0 huq hua => h.done u hu hu0 (fun hm => ?_), h.pred⟩
      rcases List.mem_cons.1 hm with e | e
      · exact hua e
      · exact huq e
    have hab : rd out a ≤ b := h.hi a ha
    have hbl : b ≤ 1000000 := by omega
    obtain ⟨s, s1, s2, s3, s4, s5⟩ := visits_mid hl hab hbl (goesL (fallAt l a) a (jumpAt l a).1 (jumpAt l a).2) hm (fun t ht => (goes_nxt ha).1 ht)
    have hB : Bfs l s.1 s.2 (b + 1) := by
      refine ⟨s2.len, s2.lo, fun v hv => by have := s2.hi v hv; omega, s2.zero, fun w hw => ?_, s2.sorted, fun v hv w hw => ?_, fun u hu hu0 huq => ?_, s2.pred⟩
      · obtain ⟨i1, i2⟩ := s2.qin w hw
        exact ⟨i1, by omega⟩
      · obtain ⟨i1, i2⟩ := s2.qin w hw
        have := s2.hi v hv
        omega
      · by_cases hua : u = a
        · subst hua
          intro x hx
          have hxi := nxt_mem hx
          have := s2.hi x hxi
          rw [s2.aat]
          exact ⟨s3 x ((goes_nxt ha).2 hx), this⟩
        · exact s2.done u hu hu0 huq hua
    simp only [List.length_cons] at hk hb
    obtain ⟨r, r1, r2⟩ := distL_ok hl k s.1 s.2 (b + 1) hB (by omega) (by omega) (by omega)
    refine ⟨r, ?_, r2⟩
    simp only [distL]
    rw [falls_eq hl ha.1 ha.2, target_eq ha.1 ha.2]
    simp only [Option.bind_some]
    rw [s1]
    exact r1
theorem rd_rep (n : Nat) (v : Int) (h0 : 0 ≤ v) (h1 : v < (n : Int)) : rd (List.replicate n (-1)) v = -1 := by
  show (List.replicate n (-1)).getD v.toNat 0 = -1
  rw [List.getD_eq_getElem?_getD, List.getElem?_replicate, if_pos (by omega)]; rfl
theorem deadL_len_le (xs : List Int) : (deadL xs).length ≤ xs.length := filter_upTo_len _ _
theorem Dist_ok {l : List S36} (hl : l.length ≤ 1000) : ∃ r, flow_Dist.f l = some r ∧ Dst l r := by
  unfold flow_Dist.f
  by_cases h0 : l.length = 0
  · rw [if_pos h0]
    exact ⟨[], rfl, by rw [h0]; rfl, fun v hv => by have := hv.1; have := hv.2; omega, fun v hv => by have := hv.1; have := hv.2; omega, fun v hv => by have := hv.1; have := hv.2; omega, fun v hv => by have := hv.1; have := hv.2; omega, fun h => by omega⟩
  · rw [if_neg h0, if_pos hl]
    have hlen : (List.replicate l.length (-1 : Int)).length = l.length := by simp
    have hr : ∀ v, In l v → rd ((List.replicate l.length (-1 : Int)).set (0 : Int).toNat 0) v = if v = 0 then 0 else -1 := fun v hv => by
      rw [rd_set (Int.le_refl 0) (by rw [hlen]; omega) hv.1, rd_rep _ _ hv.1 hv.2]
    have hz : In l 0 := ⟨Int.le_refl 0, by omega⟩
    have hd := dead_set (out := List.replicate l.length (-1 : Int)) (t := 0) (x := 0) (Int.le_refl 0) (by rw [hlen]; omega) (rd_rep _ _ (Int.le_refl 0) (by omega)) (by decide)
    have hd2 := deadL_len_le (List.replicate l.length (-1 : Int))
    rw [hlen] at hd2
    rw [Int.toNat_zero] at hr hd
    have h00 : rd ((List.replicate l.length (-1 : Int)).set 0 0) 0 = 0 := by rw [hr 0 hz, if_pos rfl]
    refine distL_ok hl _ _ _ 0 ⟨by simp, fun v hv => ?_, fun v hv => ?_, h00, fun w hw => ?_, List.pairwise_singleton _ _, fun v hv w hw => ?_, fun u hu hu0 huq => ?_, fun v hv hv0 => ?_⟩ (Int.le_refl 0) (by simp only [List.length_singleton]; omega) (by simp only [List.length_singleton]; omega)
    · rw [hr v hv]; split <;> omega
    · rw [hr v hv]; split <;> omega
    · rw [List.mem_singleton.1 hw]; exact ⟨hz, by rw [h00]; omega⟩
    · rw [List.mem_singleton.1 hw, h00, hr v hv]; split <;> omega
    · exfalso
      rw [hr u hu] at hu0
      split at hu0
      · rename_i e; exact huq (by rw [e]; exact List.mem_singleton.2 rfl)
      · omega
    · rw [hr v hv] at hv0
      split at hv0
      · rename_i e; subst e; exact .inl ⟨rfl, h00⟩
      · omega
end Go.Proofs.YtciilgcinicdiaaDoor.X
