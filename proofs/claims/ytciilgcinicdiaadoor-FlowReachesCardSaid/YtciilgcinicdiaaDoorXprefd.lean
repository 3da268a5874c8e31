/- Plain Lean: the reference's Dist, Dead and Blocks: the same. -/
import Derived.Test.YtciilgcinicdiaaDoorXpref
import Derived.Test.YtciilgcinicdiaaDoorXpdist
namespace Go.Proofs.YtciilgcinicdiaaDoor.X
open Go.RowKit Go.Proofs.YtciilgcinicdiaaDoorW.PrintWords Go.Proofs.YtciilgcinicdiaaDoorW.PrintLast Go.Proofs.YtciilgcinicdiaaDoorW.PrintMore
set_option linter.unusedVariables false
set_option linter.unusedSimpArgs false

structure Lay (l : List S36) (out : List Int) (d i : Int) : Prop where
  len : out.length = l.length
  lo : ∀ v, In l v → -1 ≤ rd out v
  hi : ∀ v, In l v → rd out v ≤ d + 1
  zero : 0 < l.length → rd out 0 = 0
  done : ∀ u, In l u → 0 ≤ rd out u → (rd out u < d ∨ (rd out u = d ∧ u < i)) → EdgeOk l out u
  pred : ∀ v, In l v → 0 ≤ rd out v → PredOk l out v
theorem Lay.set {l : List S36} {out : List Int} {d i t : Int} (h : Lay l out d i) (hd0 : 0 ≤ d) (hi : In l i) (hid : rd out i = d) (ht : t ∈ nxt l i) (hm : rd out t = -1) : Lay l (out.set t.toNat (d + 1)) d i ∧ (∀ v, In l v → 0 ≤ rd out v → rd (out.set t.toNat (d + 1)) v = rd out v) ∧ rd (out.set t.toNat (d + 1)) t = d + 1 := by
  have hti := nxt_mem ht
  have htl : t < (out.length : Int) := by rw [h.len]; exact hti.2
  have hne : ∀ v, 0 ≤ rd out v → v ≠ t := fun v hv e => by subst e; omega
  have keep : ∀ v, 0 ≤ v → v ≠ t → rd (out.set t.toNat (d + 1)) v = rd out v := fun v hv hvt => by rw [rd_set hti.1 htl hv, if_neg hvt]
  have new : rd (out.set t.toNat (d + 1)) t = d + 1 := by rw [rd_set hti.1 htl hti.1, if_pos rfl]
  refine ⟨⟨by rw [List.length_set]; exact h.len, fun v hv => ?_, fun v hv => ?_, fun hn => ?_, fun u hu hu0 hud => ?_, fun v hv hv0 => ?_⟩, fun v hv hv0 => keep v hv.1 (hne v hv0), new⟩
  · rw [rd_set hti.1 htl hv.1]
    split
    · omega
    · exact h.lo v hv
  · rw [rd_set hti.1 htl hv.1]
    split
    · omega
    · exact h.hi v hv
  · have hz := h.zero hn
    rw [keep 0 (by omega) (hne 0 (by omega))]; exact hz
  · have hut : u ≠ t := fun e => by subst e; rw [new] at hud; omega
    rw [keep u hu.1 hut] at hu0 hud
    intro x hx
    have hxi := nxt_mem hx
    obtain ⟨e1, e2⟩ := h.done u hu hu0 hud x hx
    rw [keep x hxi.1 (hne x e1), keep u hu.1 hut]
    exact ⟨e1, e2⟩
  · by_cases hvt : v = t
    · subst hvt
      refine .inr ⟨by rw [new]; omega, i, hi, ht, ?_⟩
      rw [new, keep i hi.1 (hne i (by omega)), hid]; omega
    · rw [keep v hv.1 hvt] at hv0
      rcases h.pred v hv hv0 with ⟨a, c⟩ | ⟨a, u, hu, hvu, he⟩
      · exact .inl ⟨a, by rw [keep v hv.1 hvt]; exact c⟩
      · refine .inr ⟨by rw [keep v hv.1 hvt]; exact a, u, hu, hvu, ?_⟩
        rw [keep v hv.1 hvt, keep u hu.1 (hne u (by omega))]; exact he

/-- the layers' answer is the queue's. -/
theorem lay_eq {l : List S36} {out r : List Int} (h : Lay l out (l.length : Int) 0) (hr : Dst l r) : out = r := by
  have A : ∀ (m : Nat) (v : Int), In l v → 0 ≤ rd out v → (rd out v).toNat ≤ m → 0 ≤ rd r v ∧ rd r v ≤ rd out v := by
    intro m
    induction m with
    | zero =>
      intro v hv h0 hm
      rcases h.pred v hv h0 with ⟨rfl, he⟩ | ⟨hp, _⟩
      · have := hr.zero (by have := hv.2; omega)
        omega
      · omega
    | succ m ih =>
      intro v hv h0 hm
      rcases h.pred v hv h0 with ⟨rfl, he⟩ | ⟨hp, u, hu, hvu, he⟩
      · have := hr.zero (by have := hv.2; omega)
        omega
      · obtain ⟨i1, i2⟩ := ih u hu (by omega) (by omega)
        obtain ⟨e1, e2⟩ := hr.edge u hu i1 v hvu
        omega
  have B : ∀ (m : Nat) (v : Int), In l v → 0 ≤ rd r v → (rd r v).toNat ≤ m → 0 ≤ rd out v ∧ rd out v ≤ rd r v := by
    intro m
    induction m with
    | zero =>
      intro v hv h0 hm
      rcases hr.pred v hv h0 with ⟨rfl, he⟩ | ⟨hp, _⟩
      · have := h.zero (by have := hv.2; omega)
        omega
      · omega
    | succ m ih =>
      intro v hv h0 hm
      rcases hr.pred v hv h0 with ⟨rfl, he⟩ | ⟨hp, u, hu, hvu, he⟩
      · have := h.zero (by have := hv.2; omega)
        omega
      · obtain ⟨i1, i2⟩ := ih u hu (by omega) (by omega)
        have hh := hr.hi v hv
        obtain ⟨e1, e2⟩ := h.done u hu i1 (.inl (by omega)) v hvu
        omega
  have E : ∀ v, In l v → rd out v = rd r v := by
    intro v hv
    have l1 := h.lo v hv
    have l2 := hr.lo v hv
    by_cases h1 : 0 ≤ rd out v
    · have a := A _ v hv h1 (Nat.le_refl _)
      have b := B _ v hv a.1 (Nat.le_refl _)
      omega
    · by_cases h2 : 0 ≤ rd r v
      · have b := B _ v hv h2 (Nat.le_refl _)
        omega
      · omega
  apply List.ext_getElem
  · rw [h.len, hr.len]
  · intro i h1 h2
    have := E (i : Int) ⟨by omega, by rw [← h.len]; omega⟩
    have e1 : rd out (i : Int) = out[i] := by
      show out.getD ((i : Int)).toNat 0 = _
      rw [Int.toNat_natCast, List.getD_eq_getElem?_getD, List.getElem?_eq_getElem h1]; rfl
    have e2 : rd r (i : Int) = r[i] := by
      show r.getD ((i : Int)).toNat 0 = _
      rw [Int.toNat_natCast, List.getD_eq_getElem?_getD, List.getElem?_eq_getElem h2]; rfl
    rw [← e1, ← e2]; exact this

theorem refDist_l3 {l : List S36} {r : List Int} (hl : l.length ≤ 1000) {d i : Int} (hd0 : 0 ≤ d) (hdl : d ≤ 1000) (hi : In l i) (next : ∀ out, Lay l out d (i + 1) → Ev (fun k => secateurref14_Dist.l2 k l out d (wrap64 (i + 1))) r) :
    ∀ (m : Nat) (x : Int) (out : List Int), 0 ≤ x → ((nxt l i).length : Int) - x ≤ m → Lay l out d i → rd out i = d → (∀ y : Int, 0 ≤ y → y < x → y < ((nxt l i).length : Int) → 0 ≤ rd out (rd (nxt l i) y)) → Ev (fun k => secateurref14_Dist.l3 k l out d i (nxt l i) x) r
  | m, x, out, h0, h1, hL, hid, hy => by
    have hnl := nxt_len l i
    refine Ev.succ (fun k => by rw [secateurref14_Dist.l3]) ?_
    by_cases h2 : x < ((nxt l i).length : Int)
    · obtain ⟨m, rfl⟩ : ∃ m', m = m' + 1 := ⟨m - 1, by omega⟩
      have hw : wrap64 (x + 1) = x + 1 := wrapS (by omega) (by omega)
      have hwd : wrap64 (d + 1) = d + 1 := wrapS (by omega) (by omega)
      have hm : rd (nxt l i) x ∈ nxt l i := by
        show (nxt l i).getD x.toNat 0 ∈ _
        rw [List.getD_eq_getElem?_getD, List.getElem?_eq_getElem (by omega)]
        exact List.getElem_mem _
      have hxi := nxt_mem hm
      refine Ev.pos h2 (Ev.pos h0 (Ev.pos hxi.1 (Ev.pos (by rw [hL.len]; exact hxi.2) ?_)))
      rw [hw, hwd]
      by_cases hn : rd out (rd (nxt l i) x) = -1
      · obtain ⟨s1, s2, s3⟩ := hL.set hd0 hi hid hm hn
        refine Ev.pos hn (refDist_l3 hl hd0 hdl hi next m (x + 1) _ (by omega) (by omega) s1 (by rw [s2 i hi (by omega)]; exact hid) (fun y y0 y1 y2 => ?_))
        by_cases hyx : y = x
        · subst hyx
          rw [s3]; omega
        · have hv := hy y y0 (by omega) y2
          have hmy : rd (nxt l i) y ∈ nxt l i := by
            show (nxt l i).getD y.toNat 0 ∈ _
            rw [List.getD_eq_getElem?_getD, List.getElem?_eq_getElem (by omega)]
            exact List.getElem_mem _
          rw [s2 _ (nxt_mem hmy) hv]; exact hv
      · refine Ev.neg hn (refDist_l3 hl hd0 hdl hi next m (x + 1) out (by omega) (by omega) hL hid (fun y y0 y1 y2 => ?_))
        by_cases hyx : y = x
        · subst hyx
          have := hL.lo _ hxi
          omega
        · exact hy y y0 (by omega) y2
    · refine Ev.neg h2 (next out ⟨hL.len, hL.lo, hL.hi, hL.zero, fun u hu hu0 hud => ?_, hL.pred⟩)
      by_cases hui : u = i
      · subst hui
        intro t ht
        obtain ⟨y, hyl, hye⟩ := List.mem_iff_getElem.1 ht
        have he : rd (nxt l u) (y : Int) = t := by
          show (nxt l u).getD ((y : Int)).toNat 0 = t
          rw [Int.toNat_natCast, List.getD_eq_getElem?_getD, List.getElem?_eq_getElem hyl]; exact hye
        have := hy (y : Int) (by omega) (by omega) (by omega)
        rw [he] at this
        have h4 := hL.hi t (nxt_mem ht)
        exact ⟨this, by omega⟩
      · exact hL.done u hu hu0 (by omega)
theorem refDist_l2 {l : List S36} {r : List Int} (hl : l.length ≤ 1000) {d : Int} (hd0 : 0 ≤ d) (hdl : d ≤ 1000) (next : ∀ out, Lay l out (d + 1) 0 → Ev (fun k => secateurref14_Dist.l1 k l out (wrap64 (d + 1))) r) :
    ∀ (m : Nat) (i : Int) (out : List Int), 0 ≤ i → (l.length : Int) - i ≤ m → Lay l out d i → Ev (fun k => secateurref14_Dist.l2 k l out d i) r
  | m, i, out, h0, h1, hL => by
    refine Ev.succ (fun k => by rw [secateurref14_Dist.l2]) ?_
    by_cases h2 : i < (l.length : Int)
    · obtain ⟨m, rfl⟩ : ∃ m', m = m' + 1 := ⟨m - 1, by omega⟩
      have hw : wrap64 (i + 1) = i + 1 := wrapS (by omega) (by omega)
      refine Ev.pos h2 (Ev.pos h0 (Ev.pos (by rw [hL.len]; exact h2) ?_))
      by_cases hid : rd out i = d
      · refine Ev.pos hid (Ev.bind (refNext_eq hl i) (refDist_l3 hl hd0 hdl ⟨h0, h2⟩ (fun out' hL' => ?_) (nxt l i).length 0 out (Int.le_refl 0) (by omega) hL hid (fun y y0 y1 => by omega)))
        rw [hw]
        exact refDist_l2 hl hd0 hdl next m (i + 1) out' (by omega) (by omega) hL'
      · refine Ev.neg hid ?_
        rw [hw]
        refine refDist_l2 hl hd0 hdl next m (i + 1) out (by omega) (by omega) ⟨hL.len, hL.lo, hL.hi, hL.zero, fun u hu hu0 hud => hL.done u hu hu0 ?_, hL.pred⟩
        by_cases hui : u = i
        · subst hui; omega
        · omega
    · refine Ev.neg h2 (next out ⟨hL.len, hL.lo, fun v hv => by have := hL.hi v hv; omega, hL.zero, fun u hu hu0 hud => hL.done u hu hu0 ?_, hL.pred⟩)
      have := hu.1
      have := hu.2
      omega
theorem refDist_l1 {l : List S36} {r : List Int} (hl : l.length ≤ 1000) (hr : Dst l r) : ∀ (m : Nat) (d : Int) (out : List Int), 0 ≤ d → (l.length : Int) - d = m → Lay l out d 0 → Ev (fun k => secateurref14_Dist.l1 k l out d) r
  | m, d, out, h0, h1, hL => by
    refine Ev.succ (fun k => by rw [secateurref14_Dist.l1]) ?_
    by_cases h2 : d < (l.length : Int)
    · obtain ⟨m, rfl⟩ : ∃ m', m = m' + 1 := ⟨m - 1, by omega⟩
      have hw : wrap64 (d + 1) = d + 1 := wrapS (by omega) (by omega)
      refine Ev.pos h2 (refDist_l2 hl h0 (by omega) (fun out' hL' => ?_) l.length 0 out (Int.le_refl 0) (by omega) hL)
      rw [hw]
      exact refDist_l1 hl hr m (d + 1) out' (by omega) (by omega) hL'
    · have hdn : d = (l.length : Int) := by omega
      subst hdn
      have := lay_eq hL hr
      subst this
      exact Ev.neg h2 (Ev.pure _)
theorem refDist_l0 {l : List S36} {r : List Int} (hl : l.length ≤ 1000) (hr : Dst l r) : ∀ (m : Nat) (i : Int) (out : List Int), 0 ≤ i → (l.length : Int) - i ≤ m → out.length = l.length → (∀ v, 0 ≤ v → v < i → v < (l.length : Int) → rd out v = -1) → Ev (fun k => secateurref14_Dist.l0 k l out i) r
  | m, i, out, h0, h1, hlen, hv => by
    refine Ev.succ (fun k => by rw [secateurref14_Dist.l0]) ?_
    by_cases h2 : i < (out.length : Int)
    · obtain ⟨m, rfl⟩ : ∃ m', m = m' + 1 := ⟨m - 1, by omega⟩
      have hw : wrap64 (i + 1) = i + 1 := wrapS (by omega) (by omega)
      refine Ev.pos h2 (Ev.pos h0 ?_)
      rw [hw]
      refine refDist_l0 hl hr m (i + 1) _ (by omega) (by omega) (by rw [List.length_set]; exact hlen) (fun v v0 v1 v2 => ?_)
      rw [rd_set h0 h2 v0]
      split
      · rfl
      · exact hv v v0 (by omega) v2
    · refine Ev.neg h2 ?_
      by_cases h3 : (out.length : Int) > 0
      · have hrd : ∀ v, In l v → rd (out.set (0 : Int).toNat 0) v = if v = 0 then 0 else -1 := fun v hv' => by
          rw [rd_set (Int.le_refl 0) (by omega) hv'.1]
          split
          · rfl
          · exact hv v hv'.1 (by have := hv'.2; omega) hv'.2
        refine Ev.pos h3 (Ev.pos h3 (Ev.succ (fun k => by rw [secateurref14_Dist.j1]) (refDist_l1 hl hr l.length 0 _ (Int.le_refl 0) (by omega) ⟨by rw [List.length_set]; exact hlen, fun v hv' => ?_, fun v hv' => ?_, fun hn => ?_, fun u hu hu0 hud => ?_, fun v hv' hv0 => ?_⟩)))
        · rw [hrd v hv']; split <;> omega
        · rw [hrd v hv']; split <;> omega
        · rw [hrd 0 ⟨Int.le_refl 0, by omega⟩, if_pos rfl]
        · have := hu.1
          omega
        · rw [hrd v hv'] at hv0
          split at hv0
          · rename_i e
            subst e
            exact .inl ⟨rfl, by rw [hrd 0 hv', if_pos rfl]⟩
          · omega
      · refine Ev.neg h3 (Ev.succ (fun k => by rw [secateurref14_Dist.j1]) (refDist_l1 hl hr l.length 0 _ (Int.le_refl 0) (by omega) ⟨hlen, fun v hv' => ?_, fun v hv' => ?_, fun hn => by omega, fun u hu hu0 hud => ?_, fun v hv' hv0 => ?_⟩))
        · have a := hv'.1; have b := hv'.2; omega
        · have a := hv'.1; have b := hv'.2; omega
        · have a := hu.1; have b := hu.2; omega
        · have a := hv'.1; have b := hv'.2; omega
theorem refDist_eq {l : List S36} {r : List Int} (hl : l.length ≤ 1000) (hr : Dst l r) : Ev (fun k => secateurref14_Dist.f k l) r := by
  refine Ev.eq (fun k => ?_) (refDist_l0 hl hr l.length 0 (List.replicate l.length 0) (Int.le_refl 0) (by omega) (by simp) (fun v v0 v1 => by omega))
  unfold secateurref14_Dist.f
  rw [if_pos (by omega), if_pos (by omega), Int.toNat_natCast]

theorem refDead_go (xs : List Int) (hl : xs.length ≤ 1000000) : ∀ (m i : Nat), xs.length - i = m → i ≤ xs.length → Ev (fun k => secateurref14_Dead.l0 k xs ((upTo i).filter (fun j => decide (rd xs j = -1))) (i : Int)) ((upTo xs.length).filter (fun j => decide (rd xs j = -1)))
  | 0, i, h1, h2 => by
    obtain rfl : i = xs.length := by omega
    exact Ev.succ (fun k => by rw [secateurref14_Dead.l0]) (Ev.neg (by omega) (Ev.pure _))
  | m + 1, i, h1, h2 => by
    have ih := refDead_go xs hl m (i + 1) (by omega) (by omega)
    rw [upTo_succ, List.filter_append] at ih
    have hw : wrap64 ((i : Int) + 1) = ((i + 1 : Nat) : Int) := by rw [wrapS (by omega) (by omega)]; omega
    refine Ev.succ (fun k => by rw [secateurref14_Dead.l0]) (Ev.pos (by omega) (Ev.pos (by omega) ?_))
    rw [hw]
    by_cases h4 : rd xs (i : Int) = -1
    · refine Ev.pos h4 (Ev.pos (by have := filter_upTo_len i (fun j => decide (rd xs j = -1)); omega) ?_)
      simpa [h4] using ih
    · refine Ev.neg h4 ?_
      simpa [h4] using ih
theorem refDead_eq {l : List S36} {r : List Int} (hl : l.length ≤ 1000) (hr : Dst l r) : Ev (fun k => secateurref14_Dead.f k l) (deadL r) :=
  Ev.eq (fun k => rfl) (Ev.bind (refDist_eq hl hr) (refDead_go r (by rw [hr.len]; omega) r.length 0 (by omega) (by omega)))

theorem refBlocks_l1 {l : List S36} (hl : l.length ≤ 1000) {i : Nat} (hi : i < l.length) (acc : List Int) {r : List Int} (next : Ev (fun k => if blkAt l l.length (i : Int) = true then (if acc.length < 17592186044416 then (secateurref14_Blocks.l0 k l (acc ++ [(i : Int)]) (wrap64 ((i : Int) + 1))) else (none)) else (secateurref14_Blocks.l0 k l acc (wrap64 ((i : Int) + 1)))) r) :
    ∀ (m x : Nat), l.length - x = m → x ≤ l.length → Ev (fun k => secateurref14_Blocks.l1 k l acc (i : Int) (blkAt l x (i : Int)) (x : Int)) r
  | m, x, h1, h2 => by
    refine Ev.succ (fun k => by rw [secateurref14_Blocks.l1]) ?_
    by_cases h3 : x < l.length
    · obtain ⟨m, rfl⟩ : ∃ m', m = m' + 1 := ⟨m - 1, by omega⟩
      have ih := refBlocks_l1 hl hi acc next m (x + 1) (by omega) (by omega)
      rw [blkAt_succ] at ih
      have hw : wrap64 ((x : Int) + 1) = ((x + 1 : Nat) : Int) := by rw [wrapS (by omega) (by omega)]; omega
      have hwi : wrap64 ((i : Int) - 1) = (i : Int) - 1 := wrapS (by omega) (by omega)
      refine Ev.pos (by omega) (Ev.pos (by omega) (Ev.cbind (refTarget_eq _ _ _ _ _ _ _ _ _) ?_))
      rw [hw, hwi]
      by_cases hb : blkAt l x (i : Int) = true
      · rw [hb] at ih ⊢
        exact Ev.pos rfl (by simpa using ih)
      · have hbf : blkAt l x (i : Int) = false := by simpa using hb
        rw [hbf] at ih ⊢
        simp only [Bool.false_or] at ih
        refine Ev.neg (by decide) ?_
        have hjl : ((jumpAt l x).2 && decide ((jumpAt l x).1 = (i : Int))) = ((tgt (opAt l x) (kAt l x)).2 && decide ((tgt (opAt l x) (kAt l x)).1 = (i : Int))) := by
          unfold jumpAt
          by_cases he : (tgt (opAt l x) (kAt l x)).1 = (i : Int)
          · have hlt : (tgt (opAt l x) (kAt l x)).1 < (l.length : Int) := by rw [he]; omega
            simp only [decide_eq_true hlt, Bool.and_true]
          · simp only [decide_eq_false he, Bool.and_false]
        have hmk : makesB l (x : Int) (i : Int) = (((tgt (opAt l x) (kAt l x)).2 && decide ((tgt (opAt l x) (kAt l x)).1 = (i : Int))) || (decide ((i : Int) = (x : Int) + 1) && ((tgt (opAt l x) (kAt l x)).2 || !fallsB (opAt l x)))) := by
          unfold makesB
          rw [hjl]
        rw [hmk] at ih
        by_cases ht : (tgt (opAt l x) (kAt l x)).2 = true
        · refine Ev.pos ht ?_
          rw [ht] at ih
          by_cases he : (tgt (opAt l x) (kAt l x)).1 = (i : Int)
          · exact Ev.pos he (by simpa [he] using ih)
          · refine Ev.neg he ?_
            by_cases hx : (x : Int) = (i : Int) - 1
            · have : (i : Int) = (x : Int) + 1 := by omega
              exact Ev.pos hx (by simpa [he, this] using ih)
            · have : ¬ (i : Int) = (x : Int) + 1 := by omega
              exact Ev.neg hx (by simpa [he, this] using ih)
        · have htf : (tgt (opAt l x) (kAt l x)).2 = false := by simpa using ht
          refine Ev.neg ht ?_
          rw [htf] at ih
          by_cases hx : (x : Int) = (i : Int) - 1
          · have : (i : Int) = (x : Int) + 1 := by omega
            exact Ev.pos hx (Ev.cbind (refFalls_eq _) (by simpa [this, opAt] using ih))
          · have : ¬ (i : Int) = (x : Int) + 1 := by omega
            exact Ev.neg hx (by simpa [this] using ih)
    · obtain rfl : x = l.length := by omega
      exact Ev.neg (by omega) next
theorem refBlocks_go {l : List S36} (hl : l.length ≤ 1000) : ∀ (m i : Nat), l.length - i = m → i ≤ l.length → Ev (fun k => secateurref14_Blocks.l0 k l ((upTo i).filter (blkAt l l.length)) (i : Int)) ((upTo l.length).filter (blkAt l l.length))
  | 0, i, h1, h2 => by
    obtain rfl : i = l.length := by omega
    exact Ev.succ (fun k => by rw [secateurref14_Blocks.l0]) (Ev.neg (by omega) (Ev.pure _))
  | m + 1, i, h1, h2 => by
    have ih := refBlocks_go hl m (i + 1) (by omega) (by omega)
    rw [upTo_succ, List.filter_append] at ih
    have hw : wrap64 ((i : Int) + 1) = ((i + 1 : Nat) : Int) := by rw [wrapS (by omega) (by omega)]; omega
    refine Ev.succ (fun k => by rw [secateurref14_Blocks.l0]) (Ev.pos (by omega) ?_)
    have h0 : ((i : Int) == 0) = blkAt l 0 (i : Int) := by
      unfold blkAt
      by_cases hz : (i : Int) = 0
      · rw [hz]; rfl
      · rw [beqF hz, decide_eq_false hz]; rfl
    rw [h0]
    refine refBlocks_l1 hl (by omega) _ ?_ l.length 0 (by omega) (by omega)
    rw [hw]
    by_cases h4 : blkAt l l.length (i : Int) = true
    · refine Ev.pos h4 (Ev.pos (by have := filter_upTo_len i (blkAt l l.length); omega) ?_)
      simpa [h4] using ih
    · refine Ev.neg h4 ?_
      simpa [h4] using ih
theorem refBlocks_eq {l : List S36} (hl : l.length ≤ 1000) : Ev (fun k => secateurref14_Blocks.f k l) (blocksL l) :=
  Ev.eq (fun k => rfl) (refBlocks_go hl l.length 0 (by omega) (by omega))
end Go.Proofs.YtciilgcinicdiaaDoor.X
