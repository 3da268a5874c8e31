/- A region that draws, where all but its last operations are still, INSIDE A FENCE, a round's too. -/
import Derived.StillTailTactics
import Derived.OrdersIn
import Derived.TacticsIn
namespace Go
set_option linter.unusedVariables false

def Oper.isPlain (o : Oper) : Bool := match o.op with
  | .move _ | .assign _ | .load _ _ | .store _ _ _ | .binOp _ _ _ _ _ | .indexAddr _ _ _ | .fieldAddr _ _ _ | .buildSlice _ _ _ | .index _ _ _ | .slice _ _ _ _ _ | .extract _ _ | .alloc _ | .box _ _ | .field _ _ _ => true
  | _ => false

section
variable {F : Fence} {n : Nat} {P : Program} {ops : Array Oper} {Q : Exit → Act → World → Prop} {md : Region.Mode}
theorem Oper.wpIn_of_wp {o : Oper} {a : Act} {w : World} {K : Act → World → Prop} (hp : o.isPlain = true) (h : o.wp P a w K Q) : o.wpIn F n P a w K Q := by
  have hd : ∀ c, o.op ≠ .defer c := by
    intro c hc
    simp [Oper.isPlain, hc] at hp
  have hab : o.about P w a.eval = none := by
    unfold Oper.about
    cases ho : o.op <;> first | rfl | (simp [Oper.isPlain, ho] at hp; done)
  unfold Oper.wpIn
  refine ⟨fun f hf => (by rw [hab] at hf; cases hf), ?_⟩
  rw [Oper.semAt_eq _ _ _ hd]
  unfold Oper.wp at h
  have key : (∃ v w', (execOp a.eval o).run P w = .ok (.value v) w') ∨ (∃ w', (execOp a.eval o).run P w = .ok .skip w') ∨ (∃ x w', (execOp a.eval o).run P w = .halt x w') := by
    have kv : ∀ s : Sem Value, (∃ v w', (do let x ← s; pure (Next.value x) : Sem Next).run P w = .ok (.value v) w') ∨ (∃ w', (do let x ← s; pure (Next.value x) : Sem Next).run P w = .ok .skip w') ∨ (∃ x w', (do let x ← s; pure (Next.value x) : Sem Next).run P w = .halt x w') := by
      intro s
      rw [Sem.run_bind]
      cases s.run P w with
      | ok v w' => exact .inl ⟨v, w', rfl⟩
      | halt x w' => exact .inr (.inr ⟨x, w', rfl⟩)
    have ku : ∀ s : Sem Unit, (∃ v w', (do s; pure Next.skip : Sem Next).run P w = .ok (.value v) w') ∨ (∃ w', (do s; pure Next.skip : Sem Next).run P w = .ok .skip w') ∨ (∃ x w', (do s; pure Next.skip : Sem Next).run P w = .halt x w') := by
      intro s
      rw [Sem.run_bind]
      cases s.run P w with
      | ok v w' => exact .inr (.inl ⟨w', rfl⟩)
      | halt x w' => exact .inr (.inr ⟨x, w', rfl⟩)
    unfold execOp
    cases ho : o.op <;> first | (simp [Oper.isPlain, ho] at hp; done) | exact kv _ | exact ku _ | exact .inl ⟨_, _, rfl⟩
  rcases key with ⟨v, w', hr⟩ | ⟨w', hr⟩ | ⟨x, w', hr⟩
  · rw [hr] at h ⊢; exact h
  · rw [hr] at h ⊢; exact h
  · rw [hr] at h ⊢
    cases x <;> first | exact h | exact h.elim

theorem wpOpIn_of_wpOp {i : Nat} {a : Act} {w : World} {K K' : Act → World → Prop} (hno : ¬ LetsOut Q) (hp : ∀ (i : Nat) (o : Oper), ops[i]? = some o → o.isPlain = true) (hk : ∀ a w, K a w → K' a w) (h : wpOp P ops Q i K a w) : wpOpIn F n P ops Q i K' a w := by
  unfold wpOp at h
  unfold wpOpIn
  split
  · rename_i ho; simp only [ho] at h; exact hk _ _ h
  · rename_i o ho
    simp only [ho] at h
    have hab : ∀ f, o.about P w a.eval = some f → F.fn f := by
      intro f hf
      have hpo := hp i o ho
      unfold Oper.about at hf
      cases hoo : o.op <;> first | (simp [Oper.isPlain, hoo] at hpo; done) | (rw [hoo] at hf; cases hf)
    split
    · rename_i hw
      simp only [hw, if_true] at h
      rcases h with h | ⟨_, h⟩
      · exact Oper.wpIn_mono hk (Oper.wpIn_of_wp (hp i o ho) h)
      · exact (hno h).elim
    · rename_i hw
      simp only [hw] at h
      exact ⟨hab, hk _ _ h⟩

theorem wpAnyIn_of_wpAny (hno : ¬ LetsOut Q) (hp : ∀ (i : Nat) (o : Oper), ops[i]? = some o → o.isPlain = true) : ∀ (fuel : Nat) (listed : Array Bool) (a : Act) (w : World), wpAny P md ops Q fuel listed a w → wpAnyIn F n P md ops Q fuel listed a w
  | 0, _, _, _, h => h
  | fuel + 1, listed, a, w, h => ⟨h.1, fun i hi => wpOpIn_of_wpOp hno hp (fun a' w' => wpAnyIn_of_wpAny hno hp fuel _ a' w') (h.2 i hi)⟩

theorem plain_of_all {l : List Oper} (h : l.all Oper.isPlain = true) : ∀ (i : Nat) (o : Oper), l.toArray[i]? = some o → o.isPlain = true := by
  intro i o ho
  have ho : l[i]? = some o := by simpa using ho
  exact List.all_eq_true.1 h o (List.mem_of_getElem? ho)

theorem wpIn_region_still_tail {id : Nat} {a : Act} {w : World} {l : List Oper} (k : Nat) (hm : P.follows .mixedOrders = true) (hB : Region.lexTailB .any l.toArray k = true) (hpl : l.all Oper.isPlain = true) (hno : ¬ LetsOut Q)
    (h : wpStill P l.toArray w.drew (fun a' => wpList P l.toArray Q (l.drop k) a' w.drew) (l.take k) a) : (Code.region id l.toArray true).wpIn F n P Q a w := by
  simp only [Region.lexTailB, Bool.and_eq_true, decide_eq_true_eq] at hB
  obtain ⟨⟨⟨⟨hsel, hn⟩, hs⟩, hc⟩, hlex⟩ := hB
  have hn' : k < l.length := by simpa using hn
  have htl : (l.take k).length = k := by simp; omega
  have hdl : (l.drop k).length = l.toArray.size - k := by simp
  have inv0 : HeadInv .any l.toArray k (Array.replicate l.toArray.size false) :=
    ⟨by simp, fun j oj _ hl => (by rw [getD_replicate_false] at hl; cases hl), fun t _ ht => getD_in (by simpa using ht) (getD_replicate_false _ _)⟩
  have H := wpAnyL_lex (md := .any) (g := l.toArray.size - k) hsel hs hc hn (l.take k) 0 _ a (fun j hj => by
    have hj' : j < k := by rw [htl] at hj; exact hj
    simp [hj']) (by simpa using htl) inv0 (by rw [htl]; exact hlex) h
  refine wpIn_region_any hm (wpAnyIn_of_wpAny hno (plain_of_all hpl) _ _ _ _ ?_)
  have := wpAny_of_head (Q' := Q) (g := l.toArray.size - k) (fun listed a' hL => by
    have := wpAny_of_seq (md := .any) (Q' := Q) (l.drop k) k listed a' w.drew (fun j => by simp [List.getElem?_drop]) (by rw [hdl]; exact hL.1) hL.2
    rwa [hdl] at this) _ _ _ H
  rw [htl, show k + (l.toArray.size - k) = l.toArray.size by omega] at this
  exact this
end
end Go
