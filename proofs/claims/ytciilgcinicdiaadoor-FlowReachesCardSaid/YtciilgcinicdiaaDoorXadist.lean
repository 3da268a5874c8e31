/- flow.Dist: the walk, and what it computes. -/
import Derived.Test.YtciilgcinicdiaaDoorXaflow
import Derived.Test.YtciilgcinicdiaaDoorXarep
import Derived.WalkMore
import Derived.Test.YtciilgcinicdiaaDoorXin
namespace Go.Proofs.YtciilgcinicdiaaDoor.X
open Go.RowKit Go.Shelf Go.Proofs.YtciilgcinicdiaaDoorW.PrintWords Go.Proofs.YtciilgcinicdiaaDoorW.PrintLast Go.Proofs.YtciilgcinicdiaaDoorW.PrintMore
set_option linter.unusedVariables false
set_option linter.unusedSimpArgs false
attribute [local go_sem] Oper.semAt_some

/-! ### what it computes -/
def distVisit (at_ : Int) (s : List Int × List Int) (tt : Int) : Option (List Int × List Int) :=
  if 0 ≤ tt ∧ tt < (s.1.length : Int) ∧ 0 ≤ at_ ∧ at_ < (s.1.length : Int) then (if rd s.1 tt = -1 then some (s.1.set tt.toNat (wrap64 (rd s.1 at_ + 1)), s.2 ++ [tt]) else some s) else none
def distVisits (at_ : Int) : List Int → List Int × List Int → Option (List Int × List Int)
  | [], s => some s
  | t :: ts, s => (distVisit at_ s t).bind (distVisits at_ ts)
def distL : Nat → List S36 → List Int → List Int → Option (List Int)
  | 0, _, _, _ => none
  | k + 1, l0, out, q => match q with
    | [] => some out
    | a :: q' => (flow_falls.f l0 a).bind fun fl => (flow_target.f l0 a).bind fun tj => (distVisits a (goesL fl a tj.1 tj.2) (out, q')).bind fun s => distL k l0 s.1 s.2
def flow_Dist.f (l0 : List S36) : Option (List Int) :=
  if l0.length = 0 then some [] else if l0.length ≤ 1000 then distL (l0.length + 2) l0 ((List.replicate l0.length (-1)).set 0 0) [0] else none

theorem distVisits_snoc (at_ : Int) (x : Int) : ∀ (pre : List Int) (s s1 : List Int × List Int), distVisits at_ pre s = some s1 → distVisits at_ (pre ++ [x]) s = distVisit at_ s1 x
  | [], s, s1, h => by
    have : s = s1 := by simpa [distVisits] using h
    subst this
    simp [distVisits]
  | t :: ts, s, s1, h => by
    simp only [distVisits, List.cons_append] at h ⊢
    cases hv : distVisit at_ s t with
    | none => rw [hv] at h; simp at h
    | some s2 =>
      rw [hv] at h
      simp only [Option.bind_some] at h ⊢
      exact distVisits_snoc at_ x ts s2 s1 h
theorem distVisit_some (at_ : Int) (s : List Int × List Int) (tt : Int) (h0 : 0 ≤ tt) (h1 : tt < (s.1.length : Int)) (h2 : 0 ≤ at_) (h3 : at_ < (s.1.length : Int)) : distVisit at_ s tt = if rd s.1 tt = -1 then some (s.1.set tt.toNat (wrap64 (rd s.1 at_ + 1)), s.2 ++ [tt]) else some s := by
  unfold distVisit
  rw [if_pos ⟨h0, h1, h2, h3⟩]
theorem distVisit_len {at_ tt : Int} {s s' : List Int × List Int} (h : distVisit at_ s tt = some s') : (0 ≤ tt ∧ tt < (s.1.length : Int) ∧ 0 ≤ at_ ∧ at_ < (s.1.length : Int)) ∧ s'.1.length = s.1.length ∧ s'.2.length ≤ s.2.length + 1 := by
  unfold distVisit at h
  split at h
  · rename_i hc
    refine ⟨hc, ?_⟩
    split at h <;> (injection h with h; subst h; simp)
  · cases h
theorem distVisits_in {at_ : Int} : ∀ {ts : List Int} {s s' : List Int × List Int}, distVisits at_ ts s = some s' → (∀ t ∈ ts, 0 ≤ t ∧ t < (s.1.length : Int) ∧ 0 ≤ at_ ∧ at_ < (s.1.length : Int)) ∧ s'.1.length = s.1.length ∧ s'.2.length ≤ s.2.length + ts.length
  | [], s, s', h => by
    have : s = s' := by simpa [distVisits] using h
    subst this
    simp
  | t :: ts, s, s', h => by
    simp only [distVisits] at h
    obtain ⟨s1, h1, h2⟩ := Option.bind_eq_some_iff.1 h
    obtain ⟨hb, hl, hl2⟩ := distVisit_len h1
    obtain ⟨k1, k2, k3⟩ := distVisits_in h2
    refine ⟨fun t' ht' => ?_, by omega, by simp; omega⟩
    rcases List.mem_cons.1 ht' with rfl | ht'
    · exact hb
    · have := k1 t' ht'
      rw [hl] at this
      exact this
theorem distVisits_snoc_some {at_ x : Int} {pre : List Int} {s s1 s2 : List Int × List Int} (h : distVisits at_ pre s = some s1) (h2 : distVisit at_ s1 x = some s2) : distVisits at_ (pre ++ [x]) s = some s2 := (distVisits_snoc at_ x pre s s1 h).trans h2

theorem flow_falls_in {l0 : List S36} {a : Int} {fl : Bool} (h : flow_falls.f l0 a = some fl) : 0 ≤ a ∧ a < (l0.length : Int) := by
  unfold flow_falls.f at h
  split at h
  · split at h
    · exact ⟨by assumption, by assumption⟩
    · cases h
  · cases h
/-! ### what lies in memory between two rounds -/
def rowOut (g1 n cap1 : Nat) : Value := .slice (some ⟨g1, 0, none⟩) n cap1
structure DistAt (w : World) (b3 b4 g1 n cap1 : Nat) (ok : Nat → Prop) (out q : List Int) (W : World) : Prop where
  x3 : Boxed W b3 29 (rowOut g1 n cap1)
  xr : Kd.R (Kd.int .i64) 3 W w.heap.size (fun k => k = g1) (rowOut g1 n cap1) out
  xq : ∃ v4, Boxed W b4 29 v4 ∧ Kd.Q (Kd.int .i64) 3 W w.heap.size ok v4 q
  xb : Below w.heap.size w W
def markOf (D : Nat) : Deferred := { target := .collected D, args := #[] }
structure Marks (B : Nat) (ds : List Deferred) (W : World) : Prop where
  h : ∃ Ds : List Nat, ds = Ds.map markOf ∧ Ds.Nodup ∧ ∀ D ∈ Ds, B ≤ D ∧ D < W.heap.size ∧ W.heap[D]? = some (.deferred (some []))
theorem Marks.none (B : Nat) (W : World) : Marks B [] W := ⟨[], rfl, by simp, by simp⟩
theorem Marks.grown {B : Nat} {ds : List Deferred} {W W' : World} {row : Option Nat} (h : Marks B ds W) (hg : W.grownBy W' row) (hr : ∀ r, row = some r → W.heap[r]? ≠ some (.deferred (some []))) : Marks B ds W' := by
  obtain ⟨Ds, h1, h2, h3⟩ := h.h
  refine ⟨Ds, h1, h2, fun D hD => ?_⟩
  obtain ⟨a1, a2, a3⟩ := h3 D hD
  exact ⟨a1, Nat.lt_of_lt_of_le a2 hg.size, (hg.block D a2 (fun e => hr D e.symm a3)).trans a3⟩
theorem Marks.cons {B D : Nat} {ds : List Deferred} {W : World} (h : Marks B ds W) (hB : B ≤ D) (hD : W.heap[D]? = some (.deferred (some []))) (hn : ∀ d ∈ ds, d ≠ markOf D) : Marks B (markOf D :: ds) W := by
  obtain ⟨Ds, h1, h2, h3⟩ := h.h
  refine ⟨D :: Ds, by rw [h1]; rfl, List.nodup_cons.2 ⟨fun hm => hn _ (by rw [h1]; exact List.mem_map_of_mem hm) rfl, h2⟩, fun E hE => ?_⟩
  rcases List.mem_cons.1 hE with rfl | hE
  · exact ⟨hB, (Array.getElem?_eq_some_iff.1 hD).1, hD⟩
  · exact h3 E hE
/-- at the return: the marks are taken off. -/
theorem leaves_marks {fn : Func} {tmps : Array Value} {R : Ending → World → Prop} {v : Value} {n : Nat} {P : Program} (hres : ∀ W : World, (results fn tmps).run P W = .ok v W) (B : Nat) (Post : World → Prop) (hpost : ∀ W D, Post W → B ≤ D → W.heap[D]? = some (.deferred (some [])) → Post (W.putObj D (.deferred none)))
    (hR : ∀ W, Post W → R (.returned v) W) : ∀ (Ds : List Nat) (W : World), Ds.Nodup → (∀ D ∈ Ds, B ≤ D ∧ W.heap[D]? = some (.deferred (some []))) → Post W → LeavesInM Fence.wide n P fn tmps R (Ds.map markOf) .returning W
  | [], W, _, _, hp => ⟨v, hres W, hR W hp⟩
  | D :: Ds, W, hn, hd, hp => by
    obtain ⟨hB, hD⟩ := hd D (by simp)
    obtain ⟨hn1, hn2⟩ := List.nodup_cons.1 hn
    refine ⟨by simp, .inl ⟨D, _, rfl, run_takeDeferred hD, ?_⟩⟩
    refine leaves_marks hres B Post hpost hR Ds _ hn2 (fun E hE => ?_) (hpost W D hp hB hD)
    obtain ⟨e1, e2⟩ := hd E (List.mem_cons_of_mem _ hE)
    exact ⟨e1, (World.putObj_heap_other (by intro e; subst e; exact hn1 hE)).trans e2⟩

/-- a row, a queue abide the turn of a block that is no cells. -/
theorem R_turn {α : Type} {d : Kd α} {e : Nat} {W W' : World} {base : Nat} {ok : Nat → Prop} {v : Value} {xs : List α} (h : d.R e W base ok v xs) {row : Option Nat} (hg : W.grownBy W' row) (hr : ∀ r, row = some r → ∃ o : Obj, W.heap[r]? = some o ∧ o.isCells = false) : d.R e W' base ok v xs :=
  Kd.R_mono (Kd.R_move (Kd.R_bound h) (fun k hk => hg.block k hk.2.2.1 (fun e' => by
    obtain ⟨o, ho, hc⟩ := hr k e'.symm
    obtain ⟨q, _, cells, hcell⟩ := hk.2.2.2
    rw [ho] at hcell
    cases hcell
    cases hc))) (fun _ hk => hk.1)
theorem Q_turn {α : Type} {d : Kd α} {e : Nat} {W W' : World} {base : Nat} {ok : Nat → Prop} {v : Value} {xs : List α} (h : d.Q e W base ok v xs) {row : Option Nat} (hg : W.grownBy W' row) (hr : ∀ r, row = some r → ∃ o : Obj, W.heap[r]? = some o ∧ o.isCells = false) : d.Q e W' base ok v xs :=
  Kd.Q_mono (Kd.Q_move (Kd.Q_bound h) (fun k hk => hg.block k hk.2.2.1 (fun e' => by
    obtain ⟨o, ho, hc⟩ := hr k e'.symm
    obtain ⟨q, _, cells, hcell⟩ := hk.2.2.2
    rw [ho] at hcell
    cases hcell
    cases hc))) (fun _ hk => hk.1)
theorem Boxed_turn {W W' : World} {B : Nat} {t : TypeId} {v : Value} (h : Boxed W B t v) {row : Option Nat} (hg : W.grownBy W' row) (hr : ∀ r, row = some r → ∃ o : Obj, W.heap[r]? = some o ∧ o.isCells = false) : Boxed W' B t v :=
  h.kept hg (fun e' => by
    obtain ⟨o, ho, hc⟩ := hr B e'.symm
    rw [show W.heap[B]? = _ from h] at ho
    cases ho
    cases hc)
theorem DistAt.turn {w : World} {b3 b4 g1 n cap1 : Nat} {ok : Nat → Prop} {out q : List Int} {W W' : World} (h : DistAt w b3 b4 g1 n cap1 ok out q W) {row : Option Nat} (hg : W.grownBy W' row) (hB : ∀ r, row = some r → w.heap.size ≤ r) (hr : ∀ r, row = some r → ∃ o : Obj, W.heap[r]? = some o ∧ o.isCells = false) : DistAt w b3 b4 g1 n cap1 ok out q W' := by
  obtain ⟨x3, xr, ⟨v4, x4, xq⟩, xb⟩ := h
  exact ⟨Boxed_turn x3 hg hr, R_turn xr hg hr, ⟨v4, Boxed_turn x4 hg hr, Q_turn xq hg hr⟩, xb.grown hg xb.size hB⟩
theorem DistAt.alloc {w : World} {b3 b4 g1 n cap1 : Nat} {ok : Nat → Prop} {out q : List Int} {W : World} (h : DistAt w b3 b4 g1 n cap1 ok out q W) (o : Obj) : DistAt w b3 b4 g1 n cap1 ok out q (W.alloc o) :=
  h.turn (row := none) (World.grownBy_alloc W o none) (fun r e => by cases e) (fun r e => by cases e)
theorem DistAt.okk {w : World} {b3 b4 g1 n cap1 : Nat} {ok ok' : Nat → Prop} {out q : List Int} {W : World} (h : DistAt w b3 b4 g1 n cap1 ok out q W) (ho : ∀ k, ok k → k < W.heap.size → ok' k) : DistAt w b3 b4 g1 n cap1 ok' out q W := by
  obtain ⟨x3, xr, ⟨v4, x4, xq⟩, xb⟩ := h
  exact ⟨x3, xr, ⟨v4, x4, Kd.Q_mono (Kd.Q_bound xq) (fun k hk => ho k hk.1 hk.2.2.1)⟩, xb⟩
theorem row_heap {w W : World} {g1 n cap1 : Nat} {out : List Int} (h : Kd.R (Kd.int .i64) 3 W w.heap.size (fun k => k = g1) (rowOut g1 n cap1) out) : ∃ cells, W.heap[g1]? = some (.cells cells 3 (0, 0)) := Kd.R_typed h g1 (by simp [rowOut, Value.ownBlock])
/-- a number is put into the row. -/
theorem DistAt.put {w : World} {b3 b4 g1 n cap1 : Nat} {ok : Nat → Prop} {out q : List Int} {W : World} (h : DistAt w b3 b4 g1 n cap1 ok out q W) (hok : ∀ k, ok k → k ≠ g1) (i x : Int) :
    DistAt w b3 b4 g1 n cap1 ok (out.set i.toNat x) q (W.setCell ⟨g1, i.toNat, none⟩ (.int .i64 x)) ∧ W.grownBy (W.setCell ⟨g1, i.toNat, none⟩ (.int .i64 x)) (some g1) := by
  obtain ⟨x3, xr, ⟨v4, x4, xq⟩, xb⟩ := h
  obtain ⟨cells, hc⟩ := row_heap xr
  obtain ⟨r1, r2⟩ := Kd.R_putg xr i x
  have hne : ∀ {B : Nat} {v : Value}, Boxed W B 29 v → g1 ≠ B := fun hb e => by
    subst e
    rw [show W.heap[g1]? = _ from hb] at hc
    injection hc with hc
    injection hc with _ hc
    exact absurd hc (by decide)
  have hbase : w.heap.size ≤ g1 := Kd.R_base xr g1 (by simp [rowOut, Value.ownBlock])
  exact ⟨⟨x3.kept r2 (fun e => hne x3 (by injection e with e; exact e.symm)), r1, ⟨v4, x4.kept r2 (fun e => hne x4 (by injection e with e; exact e.symm)), Kd.Q_grown xq r2 (fun k hk e => hok k hk (by injection e with e))⟩, xb.grown r2 xb.size (fun k e => by cases e; exact hbase)⟩, r2⟩
/-- the queue's box is given another row. -/
theorem DistAt.queue {w : World} {b3 b4 g1 n cap1 : Nat} {ok : Nat → Prop} {out q : List Int} {W : World} (hb : w.heap.size ≤ b4) (hne : b3 ≠ b4) {v4 v4' : Value}
    (x3 : Boxed W b3 29 (rowOut g1 n cap1)) (xr : Kd.R (Kd.int .i64) 3 W w.heap.size (fun k => k = g1) (rowOut g1 n cap1) out) (x4 : Boxed W b4 29 v4) (xq : Kd.Q (Kd.int .i64) 3 W w.heap.size ok v4' q) (xb : Below w.heap.size w W) :
    DistAt w b3 b4 g1 n cap1 ok out q (W.setCell ⟨b4, 0, none⟩ v4') ∧ W.grownBy (W.setCell ⟨b4, 0, none⟩ v4') (some b4) := by
  have hg := grownBy_setCell' W b4 v4'
  refine ⟨⟨x3.kept hg (fun e => hne (Option.some.inj e)), ?_, ⟨v4', x4.set v4', ?_⟩, xb.grown hg xb.size (fun k e => by cases e; exact hb)⟩, hg⟩
  · exact Kd.R_set xr (show W.heap[b4]? = _ from x4) (by intro q hq; simp [Kd.int, Kd.scalar] at hq <;> omega) 0 _
  · exact Kd.Q_set xq (show W.heap[b4]? = _ from x4) (by intro q hq; simp [Kd.int, Kd.scalar] at hq <;> omega) 0 _

/-- what is no cells lies as it lay. -/
def NoCellsKept (n : Nat) (A B : World) : Prop := A.heap.size ≤ B.heap.size ∧ ∀ k o, k < n → A.heap[k]? = some o → o.isCells = false → B.heap[k]? = some o
theorem NoCellsKept.step {n : Nat} {A B C : World} (h : NoCellsKept n A B) {row : Option Nat} (hg : B.grownBy C row) (hr : ∀ r, row = some r → r < n → ∃ cells t f, B.heap[r]? = some (.cells cells t f)) : NoCellsKept n A C := by
  refine ⟨Nat.le_trans h.1 hg.size, fun k o hk ha hc => ?_⟩
  have hb := h.2 k o hk ha hc
  refine (hg.block k (Array.getElem?_eq_some_iff.1 hb).1 (fun e => ?_)).trans hb
  obtain ⟨cells, t, f, hh⟩ := hr k e.symm hk
  rw [hb] at hh
  cases hh
  cases hc
theorem NoCellsKept.marks {n : Nat} {A B : World} (h : NoCellsKept n A B) (hn : A.heap.size ≤ n) {Bs : Nat} {ds : List Deferred} (hm : Marks Bs ds A) : Marks Bs ds B := by
  obtain ⟨Ds, h1, h2, h3⟩ := hm.h
  refine ⟨Ds, h1, h2, fun D hD => ?_⟩
  obtain ⟨a1, a2, a3⟩ := h3 D hD
  exact ⟨a1, Nat.lt_of_lt_of_le a2 h.1, h.2 D _ (by omega) a3 rfl⟩
theorem keepsFrom_cells {B : Nat} {A C : World} {row : Option Nat} (hg : A.grownBy C row) (hr : ∀ r, row = some r → ∃ cells t f, A.heap[r]? = some (.cells cells t f)) : KeepsFrom B A C := by
  refine ⟨hg.size, fun k o _ hk hc => (hg.block k (Array.getElem?_eq_some_iff.1 hk).1 (fun e => ?_)).trans hk⟩
  obtain ⟨cells, t, f, hh⟩ := hr k e.symm
  rw [hk] at hh
  cases hh
  cases hc

section
variable {F : Fence} {nF : Nat} {P : Program} {ops : Array Oper} {rest : List Oper} {o : Oper} {a : Act} {Q' : Exit → Act → World → Prop} {α : Type}
theorem wpListIn_Q_append (d : Kd α) {w0 W : World} (base : Nat) (hgd : o.guard = none) (s x : Operand) (t e : TypeId) (z : Value) (bytes : Nat)
    (ho : o.op = .call { callee := .builtin .append, args := #[s, x], argTypes := #[t, t] })
    (ht : P.underlying t = some (.slice e)) (hinfo : (P.info? e).map (fun i => (i.zero, i.size, i.bytes)) = some (some z, d.sz, bytes)) (hz : z.cells.size = d.sz) (hs0 : 0 < d.sz) (hb0 : 0 < bytes)
    (v : Value) (xs : List α) (p : α) (cs : List Value) (ok okp : Nat → Prop) (hs : a.eval s = v) (hx : a.eval x = .slice (some ⟨W.heap.size, 0, none⟩) 1 1) (hp : d.M W base okp p cs) (hokp : ∀ k, okp k → ok k ∧ some k ≠ v.ownBlock) (hfresh : ∀ k, W.heap.size ≤ k → ok k)
    (HO : d.Q e W base ok v xs) (HB : Below base w0 W) (hbase : base ≤ W.heap.size) (hl : (xs.length + 1) * bytes ≤ 140737488355328)
    (h : ∀ v1 w1, d.Q e w1 base ok v1 (xs ++ [p]) → Below base w0 w1 → W.grownBy w1 v.ownBlock → (v1.ownBlock = v.ownBlock ∨ ∃ b, v1.ownBlock = some b ∧ W.heap.size ≤ b) → wpListIn F nF P ops Q' rest (a.put o.dst v1) w1) :
    wpListIn F nF P ops Q' (o :: rest) a (W.alloc (.cells cs.toArray e)) := by
  obtain ⟨v1, w1, hr, h1, h2, h3, h4⟩ := Kd.Q_run (P := P) d base t o.type e z bytes ht hinfo hz hs0 hb0 v xs p cs ok okp hp hokp hfresh HO HB hbase hl
  refine wpListIn_plain hgd fun K hK => ?_
  unfold Oper.wpIn
  refine ⟨by simp [Oper.about, ho, resolve, Target.leads, Sem.run_pure], ?_⟩
  rw [Oper.semAt_plain F _ _ (by rw [ho]; intro c hc'; cases hc')]
  simp [execOp, ho, resolve, invoke, builtin, hs, hx, hr, Result.andThen]
  exact hK _ _ (h v1 w1 h1 h2 h3 h4)
end

theorem wpIn_scope {n : Nat} {P : Program} {Q : Exit → Act → World → Prop} {a : Act} {w : World} {c : Code} (h : c.wpIn Fence.wide n P (Exit.noGoto Q) a w) : (Code.scope c).wpIn Fence.wide n P Q a w := wpIn_wide.2 (wp_scope_straight (wpIn_wide.1 h))

def distOk (g1 B k : Nat) : Prop := k ≠ g1 ∧ ¬ (B ≤ k ∧ k < B + 3)
def distI (w W : World) (b3 b4 g1 n cap1 : Nat) (at_ : Int) (out q : List Int) (pre : List {x : Int // 0 ≤ x ∧ x < (n : Int)}) (WW : World) : Prop :=
  (∃ s : List Int × List Int, Aside0 (distVisits at_ (pre.map Subtype.val) (out, q) = some s) ∧ DistAt w b3 b4 g1 n cap1 (distOk g1 W.heap.size) s.1 s.2 WW) ∧ (Boxed WW W.heap.size 3 (.int .i64 at_) ∧ NoCellsKept W.heap.size W WW ∧ W.heap.size + 3 ≤ WW.heap.size)
theorem KpAt.step {b B1 B2 : Nat} {A C : World} {row : Option Nat} (hg : A.grownBy C row) (hb : b ≤ A.heap.size) (h1 : B1 < A.heap.size) (h2 : B2 < A.heap.size) (hr : ∀ r, row = some r → b ≤ r ∧ r ≠ B1 ∧ r ≠ B2) : KpAt b B1 B2 A C :=
  ⟨(Below.refl b A).grown hg hb (fun k e => (hr k e).1), hg.block B1 h1 (fun e => (hr B1 e.symm).2.1 rfl), hg.block B2 h2 (fun e => (hr B2 e.symm).2.2 rfl)⟩
theorem box_ne_row {W : World} {B k t e : Nat} {v : Value} (h : Boxed W B t v) (hk : ∃ cells, W.heap[k]? = some (.cells cells e (0, 0))) (hne : t ≠ e) : B ≠ k := by
  rintro rfl
  obtain ⟨cells, hc⟩ := hk
  rw [show W.heap[B]? = _ from h] at hc
  injection hc with hc
  injection hc with _ hc
  exact hne hc
theorem dist_put {w W WW : World} {b3 b4 g1 n cap1 B : Nat} {at_ : Int} {o1 q1 : List Int} (hD : DistAt w b3 b4 g1 n cap1 (distOk g1 B) o1 q1 WW) (hbx : Boxed WW B 3 (.int .i64 at_)) (hnc : NoCellsKept B W WW) (hg1 : g1 < B) (hs : B + 3 ≤ WW.heap.size) (x u : Int) :
    DistAt w b3 b4 g1 n cap1 (distOk g1 B) (o1.set x.toNat u) q1 (WW.setCell ⟨g1, x.toNat, none⟩ (.int .i64 u)).drew ∧ Boxed (WW.setCell ⟨g1, x.toNat, none⟩ (.int .i64 u)).drew B 3 (.int .i64 at_) ∧ NoCellsKept B W (WW.setCell ⟨g1, x.toNat, none⟩ (.int .i64 u)).drew ∧ KeepsFrom (B + 3) WW (WW.setCell ⟨g1, x.toNat, none⟩ (.int .i64 u)).drew ∧ KpAt w.heap.size (B + 1 + 1) (B + 1) WW (WW.setCell ⟨g1, x.toNat, none⟩ (.int .i64 u)).drew := by
  have hgd : (WW.setCell ⟨g1, x.toNat, none⟩ (.int .i64 u)).grownBy (WW.setCell ⟨g1, x.toNat, none⟩ (.int .i64 u)).drew none := grown_of_below (below_drew (Below.refl _ _)) none
  obtain ⟨cells, hc⟩ := row_heap hD.xr
  obtain ⟨h1, hg⟩ := hD.put (fun k hk => hk.1) x u
  have hbase : w.heap.size ≤ g1 := Kd.R_base hD.xr g1 (by simp [rowOut, Value.ownBlock])
  have hwW := hD.xb.size
  refine ⟨h1.turn hgd (fun r e => by cases e) (fun r e => by cases e), (hbx.kept hg (fun e => by injection e with e; omega)).kept hgd (by simp), (hnc.step hg (fun r e _ => by cases e; exact ⟨_, _, _, hc⟩)).step hgd (fun r e => by cases e), (keepsFrom_cells hg (fun r e => by cases e; exact ⟨_, _, _, hc⟩)).trans (keepsFrom_cells hgd (fun r e => by cases e)),
    (KpAt.step hg (by omega) (by omega) (by omega) (fun r e => by cases e; exact ⟨hbase, by omega, by omega⟩)).trans (KpAt.step hgd (by have := hg.size; omega) (by have := hg.size; omega) (by have := hg.size; omega) (fun r e => by cases e))⟩
theorem dist_app {w W W2 W3 : World} {b3 b4 g1 n cap1 B : Nat} {at_ : Int} {o1 q1 q2 : List Int} {v4 v1 : Value} (hb4 : w.heap.size ≤ b4) (hne : b3 ≠ b4) (hbB : b4 < B)
    (x3 : Boxed W2 b3 29 (rowOut g1 n cap1)) (xr : Kd.R (Kd.int .i64) 3 W2 w.heap.size (fun k => k = g1) (rowOut g1 n cap1) o1) (x4 : Boxed W2 b4 29 v4) (xq : Kd.Q (Kd.int .i64) 3 W2 w.heap.size (distOk g1 B) v4 q1) (xb : Below w.heap.size w W2)
    (hbx : Boxed W2 B 3 (.int .i64 at_)) (hnc : NoCellsKept B W W2) (hg1 : g1 < B) (hs : B + 3 ≤ W2.heap.size)
    (hQ1 : Kd.Q (Kd.int .i64) 3 W3 w.heap.size (distOk g1 B) v1 q2) (hb1 : Below w.heap.size w W3) (hg : W2.grownBy W3 v4.ownBlock) :
    DistAt w b3 b4 g1 n cap1 (distOk g1 B) o1 q2 (W3.setCell ⟨b4, 0, none⟩ v1) ∧ Boxed (W3.setCell ⟨b4, 0, none⟩ v1) B 3 (.int .i64 at_) ∧ NoCellsKept B W (W3.setCell ⟨b4, 0, none⟩ v1) ∧ KeepsFrom (B + 3) W2 (W3.setCell ⟨b4, 0, none⟩ v1) ∧ KpAt w.heap.size (B + 1 + 1) (B + 1) W2 (W3.setCell ⟨b4, 0, none⟩ v1) := by
  have hty := Kd.Q_typed xq
  have hok := xq.1
  have hbase := Kd.Q_base xq
  have x3' : Boxed W3 b3 29 (rowOut g1 n cap1) := x3.kept hg (fun e => box_ne_row x3 (hty b3 e.symm) (by decide) rfl)
  have x4' : Boxed W3 b4 29 v4 := x4.kept hg (fun e => box_ne_row x4 (hty b4 e.symm) (by decide) rfl)
  have xr' : Kd.R (Kd.int .i64) 3 W3 w.heap.size (fun k => k = g1) (rowOut g1 n cap1) o1 := Kd.R_grown xr hg (fun k hk e => (hok k e.symm).1 hk)
  obtain ⟨h1, hgs⟩ := DistAt.queue hb4 hne x3' xr' x4' hQ1 hb1
  have hsz := hg.size
  have hwW := xb.size
  refine ⟨h1, (hbx.kept hg (fun e => (hok B e.symm).2 ⟨Nat.le_refl _, by omega⟩)).kept hgs (fun e => by injection e with e; omega), (hnc.step hg (fun r e _ => by obtain ⟨c, hc⟩ := hty r e; exact ⟨_, _, _, hc⟩)).step hgs (fun r e _ => by cases e; exact ⟨_, _, _, x4'⟩),
    (keepsFrom_cells hg (fun r e => by obtain ⟨c, hc⟩ := hty r e; exact ⟨_, _, _, hc⟩)).trans (keepsFrom_cells hgs (fun r e => by cases e; exact ⟨_, _, _, x4'⟩)),
    (KpAt.step hg (by omega) (by omega) (by omega) (fun r e => ⟨hbase r e, fun e2 => (hok r e).2 ⟨by omega, by omega⟩, fun e2 => (hok r e).2 ⟨by omega, by omega⟩⟩)).trans (KpAt.step hgs (by omega) (by omega) (by omega) (fun r e => by cases e; exact ⟨hb4, by omega, by omega⟩))⟩

/-- the frame at the head of the loop. -/
def distFrame (A0 : Option Addr) (l0 : List S36) (c0 : Nat) (w : World) (b3 b4 g1 cap1 : Nat) (ds : List Deferred) (a : Act) : Prop :=
  ∃ u5 u6 u18 u19 u20 u21 u22 u23 u24 u25 u26 u27 u28 u29 u30 u31 u32 u33 u34 u35 u36 u37 u38 u39 u40 u41 u42 u43 u44 u45 u46 u47 : Value, a = { tmps := #[.slice A0 l0.length c0, undef, .slice none 0 0, .pointer (some ⟨b3, 0, none⟩), .pointer (some ⟨b4, 0, none⟩), u5, u6, .slice (some ⟨w.heap.size, 0, none⟩) 1 1, .slice A0 l0.length c0, .int .i64 l0.length, .slice (some ⟨g1, 0, none⟩) l0.length cap1, .slice A0 l0.length c0, .int .i64 l0.length, .bool false, undef, .slice (some ⟨g1, 0, none⟩) l0.length cap1, .pointer (some ⟨g1, 0, none⟩), .slice (some ⟨b3 + 1, 0, none⟩) 1 1, u18, u19, u20, u21, u22, u23, u24, u25, u26, u27, u28, u29, u30, u31, u32, u33, u34, u35, u36, u37, u38, u39, u40, u41, u42, u43, u44, u45, u46, u47], defers := ds }


set_option maxRecDepth 100000 in
set_option maxHeartbeats 2000000 in
theorem dist_walk (A0 : Option Addr) (c0 : Nat) (l0 : List S36) (r : List Int) (w : World) (hr0 : Kd.C k36 w A0 l0.length l0) (hc0 : l0.length ≤ c0) (hG : GOk w) (hl0 : 0 < l0.length) (hl1 : l0.length ≤ 1000) (kk : Nat) (hkk : kk ≤ 1400) (h : distL kk l0 ((List.replicate l0.length (-1)).set 0 0) [0] = some r) :
    CallsIn Fence.wide 12 Tryd.prog 17 #[.slice A0 l0.length c0] w fun e w' => ∃ v0_ : Value, e = .returned (v0_) ∧ Kd.R (Kd.int .i64) 3 w' w.heap.size (fun _ => True) v0_ r ∧ Below w.heap.size w w' := by
  have H := Aside0.mk h
  have HR := Aside0.mk hr0
  have HG := Aside0.mk hG
  clear h hr0 hG
  have hrep := Aside0.mk (repeat_walk (-1) l0.length hl0 (by omega) w.heap.size (w.alloc (.cells #[.int .i64 (-1)] 3)) (Boxed.new w 3 (.int .i64 (-1))).cell)
  have hne : ((l0.length : Int) == 0) = false := beq_eq_false_iff_ne.mpr (by omega)
  have hpos : 0 < l0.length := hl0
  refine callsIn_of_wp_marks Tryd.func17 rfl trivial (wpIn_wide.2 ?_) rfl
  simp only [Tryd.ntmps17, List.size_toArray, List.length_cons, List.length_nil, Nat.reduceAdd, Nat.reduceSub, Array.replicate_succ, Array.replicate_zero, List.push_toArray, List.append_toArray, List.nil_append, List.cons_append]
  go_wp2
  go_step3
  go_wp2_with fail
  refine hrep.out.mono ?_
  rintro e w1 ⟨v, rfl, hrow, hb1⟩
  obtain ⟨g1, cap1, rfl, hg1, hg2⟩ := hrow.form hpos
  have HO : Kd.R (Kd.int .i64) 3 w1 (w.heap.size + 1) (fun k => k = g1) (.slice (some ⟨g1, 0, none⟩) l0.length cap1) (List.replicate l0.length (-1)) := Kd.R_of_own (by simpa [encs] using hrow) (fun k hk => by simpa [Value.ownBlock] using hk.symm)
  obtain ⟨hc1, hf1⟩ := Kd.R_celln 0 HO 0 (by omega) (by omega)
  rw [Int.toNat_zero] at hc1 hf1
  have HOO := Aside0.mk HO
  have HB1 := Aside0.mk (show Below w.heap.size w w1 from ((Below.refl _ w).alloc (Nat.le_refl _) _).trans (hb1.mono (by simp)))
  have hg1' : g1 < w1.heap.size := World.block_lt_of_cell? w1 _ hc1
  have hw1 : w.heap.size < w1.heap.size := by have := hb1.size; simp at this; omega
  clear HO hrep hrow hb1
  go_wp2
  go_step3
  obtain ⟨b3, hb3⟩ : ∃ b3, b3 = w1.heap.size := ⟨_, rfl⟩
  have hDist : DistAt w w1.heap.size (w1.heap.size + 1 + 1) g1 l0.length cap1 (fun k => k ≠ g1) ((List.replicate l0.length (-1)).set 0 0) [0] ((((w1.setCell ⟨g1, 0, none⟩ (.int .i64 0)).alloc (.cells #[.slice (some ⟨g1, 0, none⟩) l0.length cap1] 29)).alloc (.cells #[.int .i64 0] 3)).alloc (.cells #[.slice (some ⟨w1.heap.size + 1, 0, none⟩) 1 1] 29)) := by
    obtain ⟨hp1, hp2⟩ := Kd.R_putg HOO.out 0 0
    rw [Int.toNat_zero] at hp1 hp2
    have hzs : (w1.setCell ⟨g1, 0, none⟩ (.int .i64 0)).heap.size = w1.heap.size := World.size_setCell _ _ _
    have hbs : Below w.heap.size w (w1.setCell ⟨g1, 0, none⟩ (.int .i64 0)) := HB1.out.grown hp2 HB1.out.size (fun k e => by cases e; simp at hg1; omega)
    generalize w1.setCell ⟨g1, 0, none⟩ (.int .i64 0) = w2 at hp1 hp2 hzs hbs ⊢
    rw [← hzs]
    have q0 : (((w2.alloc (.cells #[.slice (some ⟨g1, 0, none⟩) l0.length cap1] 29)).alloc (.cells #[.int .i64 0] 3)).alloc (.cells #[.slice (some ⟨w2.heap.size + 1, 0, none⟩) 1 1] 29)).heap[w2.heap.size + 1]? = some (.cells #[.int .i64 0] 3 (0, 0)) := by
      have := (Boxed.new (w2.alloc (.cells #[.slice (some ⟨g1, 0, none⟩) l0.length cap1] 29)) 3 (.int .i64 0)).alloc (.cells #[.slice (some ⟨w2.heap.size + 1, 0, none⟩) 1 1] 29)
      rwa [World.size_alloc] at this
    refine ⟨((Boxed.new w2 _ _).alloc _).alloc _, Kd.R_lower (Kd.R_alloc (Kd.R_alloc (Kd.R_alloc hp1 _) _) _) (by omega), ⟨.slice (some ⟨w2.heap.size + 1, 0, none⟩) 1 1, ?_, ?_⟩, ((hbs.alloc (by have := hbs.size; omega) _).alloc (by have := hbs.size; simp; omega) _).alloc (by have := hbs.size; simp; omega) _⟩
    · have := Boxed.new ((w2.alloc (.cells #[.slice (some ⟨g1, 0, none⟩) l0.length cap1] 29)).alloc (.cells #[.int .i64 0] 3)) 29 (.slice (some ⟨w2.heap.size + 1, 0, none⟩) 1 1)
      rwa [World.size_alloc, World.size_alloc] at this
    · refine Kd.Q_of_R (Kd.R_of_own ⟨by simp [encs], .inr ⟨_, 1, #[.int .i64 0], rfl, by have := hbs.size; omega, q0, Nat.le_refl _, by simp [maxLen], by simp, by simp [encs]⟩⟩ (fun k hk => ?_))
      have hk2 : w2.heap.size + 1 = k := by simpa [Value.ownBlock] using hk
      omega
  go_wp2
  refine wp_loop_ghost_k (fun k a W => ∃ ds out q, distFrame A0 l0 c0 w w1.heap.size (w1.heap.size + 1 + 1) g1 cap1 ds a ∧ Marks w.heap.size ds W ∧ DistAt w w1.heap.size (w1.heap.size + 1 + 1) g1 l0.length cap1 (fun k => k ≠ g1) out q W ∧ Aside0 (out.length = l0.length) ∧ Aside0 (q.length + 2 * k ≤ 3000) ∧ Aside0 (distL k l0 out q = some r)) kk ?_ ?_
  · exact ⟨_, _, _, ⟨_, _, _, _, _, _, _, _, _, _, _, _, _, _, _, _, _, _, _, _, _, _, _, _, _, _, _, _, _, _, _, _, rfl⟩, Marks.none _ _, hDist, ⟨by simp⟩, ⟨by simp; omega⟩, H⟩
  intro k a W hI J K hJ hK
  obtain ⟨ds, out, q, ⟨u5, u6, u18, u19, u20, u21, u22, u23, u24, u25, u26, u27, u28, u29, u30, u31, u32, u33, u34, u35, u36, u37, u38, u39, u40, u41, u42, u43, u44, u45, u46, u47, rfl⟩, hM, ⟨x3, xr, ⟨v4, x4, xq⟩, xb⟩, hol, hql, hk⟩ := hI
  have hc3 : W.cell? ⟨w1.heap.size, 0, none⟩ = some (.slice (some ⟨g1, 0, none⟩) l0.length cap1) := x3.cell
  have hc4 := x4.cell
  cases q with
  | nil =>
    obtain ⟨A4, c4, rfl, _⟩ := Kd.Q_slice xq
    have hR := Aside0.mk xr
    have hX := Aside0.mk xb
    have hM' := Aside0.mk hM
    clear xr xq xb hM hDist x3 x4
    go_wp2
    obtain ⟨Ds, hds, hnd, hdd⟩ := hM'.out.h
    subst hds
    have hkr : out = r := by
      have h := hk.out
      cases k with
      | zero => simp [distL] at h
      | succ k => simpa [distL] using h
    subst hkr
    refine leaves_marks (B := w.heap.size) (fun W' => results_tmp rfl _ _ _) (fun W' => Kd.R (Kd.int .i64) 3 W' w.heap.size (fun _ => True) (rowOut g1 l0.length cap1) out ∧ Below w.heap.size w W')
      (fun W' D hp hB hDh => ⟨R_turn hp.1 (grownBy_putObj' W' D _) (fun r e => by cases e; exact ⟨_, hDh, rfl⟩), hp.2.grown (grownBy_putObj' W' D _) hp.2.size (fun k e => by cases e; exact hB)⟩)
      (fun W' hp => ⟨_, rfl, hp⟩) Ds W hnd (fun D hD => ⟨(hdd D hD).1, (hdd D hD).2.2⟩) ⟨Kd.R_mono hR.out (fun _ _ => trivial), hX.out⟩
  | cons at_ q =>
    cases k with
    | zero => exact absurd hk.out (by simp [distL])
    | succ k =>
      obtain ⟨g4, o4, cap4, rfl, hg4, hg4l, cells4, hcells4⟩ := Kd.Q_form xq (by simp)
      obtain ⟨hc40, _⟩ := Kd.Q_cell (0 : Int) xq 0 (by omega) (by simp)
      have hcl := (Kd.Q_slice xq)
      have hcapl : q.length + 1 ≤ cap4 := by
        obtain ⟨A, c, e, hl⟩ := hcl
        injection e with _ _ e3
        rw [e3]; simpa using hl
      rw [Int.toNat_zero, Nat.add_zero] at hc40
      have hrd : rdOf (0 : Int) (at_ :: q) 0 = at_ := rfl
      rw [hrd] at hc40
      have hq0 : ((q.length : Int) + 1 == 0) = false := beq_eq_false_iff_ne.mpr (by omega)
      have hfz4 := x4.frozen
      have hQd := Kd.Q_drop (k := 1) xq (by simp)
      simp only [List.length_cons, Nat.add_sub_cancel, List.drop_succ_cons, List.drop_zero, Option.map_some, Addr.add, show (Kd.int IntKind.i64).sz = 1 from rfl, Nat.mul_one, Nat.one_ne_zero, if_false] at hQd
      have hQ := Aside0.mk hQd
      have hR := Aside0.mk xr
      have hX := Aside0.mk xb
      have hMM := Aside0.mk hM
      have hx3 := Aside0.mk x3
      have hx4 := Aside0.mk x4
      have hW4 := x4.lt
      have hW3 := x3.lt
      clear xr xq xb hM hDist hcells4 hcl hrd x3 x4 hQd
      have HG5 := Aside0.mk (fun W => (callsIn_wide (n := 1)).1 (goes_in 1 (by omega) A0 l0.length c0 at_ W))
      go_wp2_with (first | refine (HG5.out _).mono ?_; rintro e w' ⟨rfl, rfl⟩)
      · simp only [h, if_true, Nat.sub_self] at hQ
        have hB4 := hx4.out
        obtain ⟨hD0, hg0⟩ := DistAt.queue (by omega) (by omega) hx3.out hR.out hx4.out hQ.out hX.out
        clear hQ hR hX hx3 hx4
        generalize Value.slice (some ⟨g4, o4, none⟩) (q.length + 1) 1 = u18'
        generalize Value.slice (some ⟨g4, o4, none⟩) q.length 0 = v4' at hD0 hg0 ⊢
        have hsz0 : (W.setCell ⟨w1.heap.size + 1 + 1, 0, none⟩ v4').heap.size = W.heap.size := World.size_setCell _ _ _
        have hNC0 : NoCellsKept W.heap.size W (W.setCell ⟨w1.heap.size + 1 + 1, 0, none⟩ v4') := NoCellsKept.step (n := W.heap.size) (A := W) (B := W) ⟨Nat.le_refl _, fun _ _ _ h _ => h⟩ hg0 (fun r e _ => by cases e; exact ⟨_, _, _, hB4⟩)
        generalize W.setCell ⟨w1.heap.size + 1 + 1, 0, none⟩ v4' = W0 at hD0 hg0 hsz0 hNC0 ⊢
        clear hg0
        have b5 := Boxed.new W0 3 (.int .i64 at_)
        have b6 := Boxed.new (W0.alloc (.cells #[.int .i64 at_] 3)) 22 (.slice A0 l0.length c0)
        have b7 := Boxed.new ((W0.alloc (.cells #[.int .i64 at_] 3)).alloc (.cells #[.slice A0 l0.length c0] 22)) 3 (.int .i64 at_)
        rw [World.size_alloc, hsz0] at b6
        rw [World.size_alloc, World.size_alloc, hsz0] at b7
        rw [hsz0] at b5
        replace b5 := (b5.alloc (.cells #[.slice A0 l0.length c0] 22)).alloc (.cells #[.int .i64 at_] 3)
        replace b6 := b6.alloc (.cells #[.int .i64 at_] 3)
        have hDb := (((hD0.okk (ok' := fun k => k ≠ g1 ∧ ¬ (W.heap.size ≤ k ∧ k < W.heap.size + 3)) (fun k hk hl => ⟨hk, by omega⟩)).alloc (.cells #[.int .i64 at_] 3)).alloc (.cells #[.slice A0 l0.length c0] 22)).alloc (.cells #[.int .i64 at_] 3)
        have hszb : (((W0.alloc (.cells #[.int .i64 at_] 3)).alloc (.cells #[.slice A0 l0.length c0] 22)).alloc (.cells #[.int .i64 at_] 3)).heap.size = W.heap.size + 3 := by simp only [World.size_alloc, hsz0]
        have hNCb := ((hNC0.step (World.grownBy_alloc _ (.cells #[.int .i64 at_] 3) none) (fun r e _ => by cases e)).step (World.grownBy_alloc _ (.cells #[.slice A0 l0.length c0] 22) none) (fun r e _ => by cases e)).step (World.grownBy_alloc _ (.cells #[.int .i64 at_] 3) none) (fun r e _ => by cases e)
        clear hD0 hNC0
        generalize ((W0.alloc (.cells #[.int .i64 at_] 3)).alloc (.cells #[.slice A0 l0.length c0] 22)).alloc (.cells #[.int .i64 at_] 3) = Wb at hDb hszb hNCb b5 b6 b7 ⊢
        clear hsz0 W0
        have hkk := hk.out
        simp only [distL] at hkk
        obtain ⟨fl, hf, hkk⟩ := Option.bind_eq_some_iff.1 hkk
        obtain ⟨⟨t, j⟩, ht, hkk⟩ := Option.bind_eq_some_iff.1 hkk
        obtain ⟨s, hvs, hrest⟩ := Option.bind_eq_some_iff.1 hkk
        obtain ⟨hin, hsl, hsq⟩ := distVisits_in hvs
        have hAt : 0 ≤ at_ ∧ at_ < (l0.length : Int) := flow_falls_in hf
        have hol' := hol.out
        have hql' := hql.out
        obtain ⟨x1, hx1⟩ : ∃ x1 : {x : Int // 0 ≤ x ∧ x < (l0.length : Int)}, fl = true → x1.val = at_ + 1 := by
          cases fl with
          | false => exact ⟨⟨0, by omega⟩, fun h => by cases h⟩
          | true => exact ⟨⟨at_ + 1, by have := hin (at_ + 1) (by simp [goesL]); simp only [hol'] at this; omega⟩, fun _ => rfl⟩
        obtain ⟨x2, hx2⟩ : ∃ x2 : {x : Int // 0 ≤ x ∧ x < (l0.length : Int)}, j = true → x2.val = t := by
          cases j with
          | false => exact ⟨⟨0, by omega⟩, fun h => by cases h⟩
          | true => exact ⟨⟨t, by have := hin t (by simp [goesL]); simp only [hol'] at this; omega⟩, fun _ => rfl⟩
        have hmap := goesA_map Subtype.val fl j x1 x2 at_ t hx1 hx2
        have hyl : (goesA fl j x1 x2).length ≤ 2 := by have := congrArg List.length hmap; rw [List.length_map] at this; have := goesL_len fl at_ t j; omega
        have HSQ := Aside0.mk (goes_stopsK Subtype.val A0 c0 l0 at_ (goesA fl j x1 x2) w Wb hDb.xb HR.out hc0 HG.out (W.heap.size + 1 + 1) (W.heap.size + 1) (by omega) (by omega) b7.cell b6.cell (.inl ⟨hAt.1, hAt.2, fl, t, j, x1, x2, hx1, hx2, hf, ht, rfl⟩) 11 (by omega))
        have HVS := Aside0.mk hvs
        have HREST := Aside0.mk hrest
        clear hf ht hkk hin hvs hrest hx1 hx2 HG5
        refine wpIn_wide.1 (wpIn_rangeFunc_ownG (n := 12) (w0 := Wb) (Kp := KpAt w.heap.size (W.heap.size + 1 + 1) (W.heap.size + 1)) rfl (by omega) (gf := 42) (lb := #[.pointer (some ⟨W.heap.size + 1 + 1, 0, none⟩), .pointer (some ⟨W.heap.size + 1, 0, none⟩)]) rfl trivial (enters_of Tryd.func42 (by kernel_rfl) rfl) HSQ.out KpAt.trans (KpAt.put (w := Wb) (b := w.heap.size) (B1 := W.heap.size + 1 + 1) (B2 := W.heap.size + 1) (by have := hDb.xb.size; omega) (by omega) (by omega)) (Below.refl _ _) (encs := fun x : {x : Int // 0 ≤ x ∧ x < (l0.length : Int)} => #[Value.int .i64 x.val]) (fun _ => rfl)
          (distI w W w1.heap.size (w1.heap.size + 1 + 1) g1 l0.length cap1 at_ out q)
          (fun _ _ _ => False)
          ?own (fun _ _ _ _ _ hs _ _ => hs)
          ⟨⟨(out, q), ⟨by simp [distVisits]⟩, hDb⟩, b5, hNCb, by omega⟩
          (fun x => { tmps := #[.slice A0 l0.length c0, undef, .slice none 0 0, .pointer (some ⟨w1.heap.size, 0, none⟩), .pointer (some ⟨w1.heap.size + 1 + 1, 0, none⟩), .pointer (some ⟨W.heap.size, 0, none⟩), .int .i64 x.val, .slice (some ⟨w.heap.size, 0, none⟩) 1 1, .slice A0 l0.length c0, .int .i64 l0.length, .slice (some ⟨g1, 0, none⟩) l0.length cap1, .slice A0 l0.length c0, .int .i64 l0.length, .bool false, undef, .slice (some ⟨g1, 0, none⟩) l0.length cap1, .pointer (some ⟨g1, 0, none⟩), .slice (some ⟨w1.heap.size + 1, 0, none⟩) 1 1, u18', .int .i64 (q.length + 1), .bool false, u18', .pointer (some ⟨g4, o4, none⟩), .int .i64 at_, u18', v4', .slice A0 l0.length c0, .int .i64 at_, .func (.func 42) #[] #[.pointer (some ⟨W.heap.size + 1 + 1, 0, none⟩), .pointer (some ⟨W.heap.size + 1, 0, none⟩)], .int .i64 x.val, u30, u31, u32, u33, u34, u35, u36, u37, u38, u39, u40, u41, u42, u43, u44, u45, u46, u47], defers := [] })
          ?assign ?body ?done ?stop)
        case own =>
          have hwb := hDb.xb.size
          exact fun pre A B row ⟨⟨s, hs, hD⟩, hb, hn, hz⟩ hg hr => ⟨⟨s, hs, hD.turn hg (fun r e => by have := (hr r e).1; omega) (fun r e => (hr r e).2)⟩, Boxed_turn hb hg (fun r e => (hr r e).2), hn.step hg (fun r e hlt => by have := (hr r e).1; omega), Nat.le_trans hz hg.size⟩
        case assign =>
          intro l x WW K hK
          gi_wp2
          exact hK
        case body =>
          rintro l pre ⟨x, hx0, hx1⟩ WW ⟨⟨⟨o1, q1⟩, hs, hDs⟩, hbx, hnc, hWWs⟩ hlt
          obtain ⟨_, ho1, hq1⟩ := distVisits_in hs.out
          rw [List.length_map] at hq1
          have hDD := Aside0.mk hDs
          obtain ⟨x3, xr, ⟨v4, x4, xq⟩, xb⟩ := hDs
          have hc3' : WW.cell? ⟨w1.heap.size, 0, none⟩ = some (.slice (some ⟨g1, 0, none⟩) l0.length cap1) := x3.cell
          have hcx := hbx.cell
          obtain ⟨hcA, hfA⟩ := Kd.R_celln (0 : Int) (n := l0.length) (cap := cap1) (g := g1) xr at_ hAt.1 hAt.2
          obtain ⟨hcX, hfX⟩ := Kd.R_celln (0 : Int) (n := l0.length) (cap := cap1) (g := g1) xr x hx0 hx1
          obtain ⟨vA, hvA⟩ : ∃ vA, vA = rdOf (0 : Int) o1 at_ := ⟨_, rfl⟩
          obtain ⟨vX, hvX⟩ : ∃ vX, vX = rdOf (0 : Int) o1 x := ⟨_, rfl⟩
          rw [← hvA] at hcA
          rw [← hvX] at hcX
          have hR := Aside0.mk xr
          have hX := Aside0.mk xb
          have HS := hs
          clear xr xb hs x3
          by_cases hm : vX = -1
          · rw [hm] at hcX
            gi_wp2
            refine wpIn_region_still_tail 8 (by kernel_rfl) (by kernel_rfl) (by kernel_rfl) (by rintro ⟨_, _, h⟩; simp [Exit.then, Exit.inBlock] at h; try exact h) ?_
            simp only [List.take_succ_cons, List.take_zero, List.drop_succ_cons, List.drop_zero]
            repeat still_step
            refine wpStill_nil ?_
            have hsWW : W.heap.size + 3 ≤ WW.heap.size := hWWs
            obtain ⟨hD2, hbx2, hnc2, hkf2, hkp2⟩ := dist_put hDD.out hbx hnc (by omega) hsWW x (wrap64 (rdOf 0 o1 at_ + 1))
            refine wpList_plain rfl (fun K hK => ?_)
            go_simp
            refine hK _ _ ?_
            clear hK K
            refine wpList_nil ?_
            rw [IntWalk.i64_left (rdOf 0 o1 at_ + 1)]
            have hsW2 : W.heap.size + 3 ≤ (WW.setCell ⟨g1, x.toNat, none⟩ (.int .i64 (wrap64 (rdOf 0 o1 at_ + 1)))).drew.heap.size := by show _ ≤ (WW.setCell _ _).heap.size; rw [World.size_setCell]; exact hsWW
            generalize (WW.setCell ⟨g1, x.toNat, none⟩ (.int .i64 (wrap64 (rdOf 0 o1 at_ + 1)))).drew = W2 at hD2 hbx2 hnc2 hkf2 hkp2 hsW2 ⊢
            have hbx2' := Aside0.mk hbx2
            clear hDD hbx hnc hc4 hcA hcX hfA hfX hcx hc3' hR hX xq x4 v4 hbx2
            obtain ⟨x3, xr, ⟨v4, x4, xq⟩, xb⟩ := hD2
            have hc4 := x4.cell
            have H3 := Aside0.mk x3
            have HR2 := Aside0.mk xr
            have H4 := Aside0.mk x4
            have HQ2 := Aside0.mk xq
            have HB2 := Aside0.mk xb
            clear x3 xr x4 xq xb
            gi_wp2_with (gi_at_builtin; refine wpListIn_Q_append (Kd.int .i64) (w0 := w) w.heap.size rfl _ _ 29 3 (.int .i64 0) 8 rfl Tryd.underlying29 rinfo3 rfl (by decide) (by decide) v4 q1 x [.int .i64 x] (distOk g1 W.heap.size) (fun _ => False) rfl rfl rfl (fun _ h => h.elim) (fun k hk => ⟨by omega, by omega⟩) HQ2.out HB2.out (by have := HB2.out.size; omega) (by simp at hq1 hlt hql'; omega) ?_; intro v1 W3 hQ1 hb3' hg3 _; obtain ⟨A5, c5, hv1, _⟩ := Kd.Q_slice hQ1; obtain ⟨n5, hn5⟩ : ∃ n5, n5 = (q1 ++ [x]).length := ⟨_, rfl⟩; rw [← hn5] at hv1; subst hv1; obtain ⟨hD4, hbx4, hnc4, hkf4, hkp4⟩ := dist_app (by omega) (by omega) hW4 H3.out HR2.out H4.out HQ2.out HB2.out hbx2'.out hnc2 (by omega) hsW2 hQ1 hb3' hg3; have x4' := H4.out.kept hg3 (fun e => box_ne_row H4.out (Kd.Q_typed HQ2.out _ e.symm) (by decide) rfl); have hc4' := x4'.cell; have hf4' := x4'.frozen; have hs4 := hg3.size)
            have hn6 : n5 = q1.length + 1 := by rw [hn5]; simp
            subst hn6
            refine ⟨by rw [hszb]; exact hkf2.trans hkf4, hkp2.trans hkp4, ⟨(o1.set x.toNat (wrap64 (rdOf 0 o1 at_ + 1)), q1 ++ [x]), ⟨?_⟩, hD4⟩, hbx4, hnc4, by rw [World.size_setCell]; omega⟩
            rw [List.map_append]
            refine distVisits_snoc_some HS.out ?_
            rw [distVisit_some _ _ _ hx0 (by rw [ho1, hol']; exact hx1) hAt.1 (by rw [ho1, hol']; exact hAt.2)]
            rw [if_pos (show rd o1 x = -1 from by show rdOf (0 : Int) o1 x = -1; rw [← hvX]; exact hm)]
            rfl
          · gi_wp2
            refine ⟨KeepsFrom.refl _ _, KpAt.refl _ _ _ _, ⟨(o1, q1), ⟨?_⟩, hDD.out⟩, hbx, hnc, hWWs⟩
            rw [List.map_append]
            refine distVisits_snoc_some HS.out ?_
            rw [distVisit_some _ _ _ hx0 (by rw [ho1, hol']; exact hx1) hAt.1 (by rw [ho1, hol']; exact hAt.2)]
            rw [if_neg (show ¬ rd o1 x = -1 from by show ¬ rdOf (0 : Int) o1 x = -1; rw [← hvX]; exact hm)]
        case done =>
          rintro D ys WW hDl hS ⟨⟨s2, hs, hDs⟩, hbx, hnc, hWWs⟩ hDd
          subst hS
          have hs2 : s2 = s := by
            have h2 := hs.out
            rw [hmap, HVS.out] at h2
            exact (Option.some.inj h2).symm
          subst hs2
          have hMk := NoCellsKept.marks hnc (Nat.le_refl _) hMM.out
          have hMk2 : Marks w.heap.size (markOf D :: ds) WW := hMk.cons (by have := hDb.xb.size; omega) hDd (fun d hd e => by
            obtain ⟨Ds, h1, h2, h3⟩ := hMM.out.h
            rw [h1] at hd
            obtain ⟨E, hE, rfl⟩ := List.mem_map.1 hd
            have hED : E = D := by simpa [markOf] using e
            have := (h3 E hE).2.1
            omega)
          have hD9 : DistAt w w1.heap.size (w1.heap.size + 1 + 1) g1 l0.length cap1 (fun k => k ≠ g1) s2.1 s2.2 WW := hDs.okk (fun k hk _ => hk.1)
          simp only [Exit.inBlock, Exit.then]
          exact hK _ _ ⟨k, Nat.lt_succ_self k, hJ k _ _ ⟨_, _, _, ⟨_, _, _, _, _, _, _, _, _, _, _, _, _, _, _, _, _, _, _, _, _, _, _, _, _, _, _, _, _, _, _, _, rfl⟩, hMk2, hD9, ⟨by rw [hsl]; exact hol'⟩, ⟨by simp at hsq hql'; have := goesL_len fl at_ t j; omega⟩, HREST⟩⟩
        case stop =>
          rintro D c pre WW _ _ h _
          exact h.elim
      · simp only [h, if_false] at hQ
        have hB4 := hx4.out
        obtain ⟨hD0, hg0⟩ := DistAt.queue (by omega) (by omega) hx3.out hR.out hx4.out hQ.out hX.out
        clear hQ hR hX hx3 hx4
        generalize Value.slice (some ⟨g4, o4, none⟩) (q.length + 1) cap4 = u18'
        generalize Value.slice (some ⟨g4, o4 + 1, none⟩) q.length (cap4 - 1) = v4' at hD0 hg0 ⊢
        have hsz0 : (W.setCell ⟨w1.heap.size + 1 + 1, 0, none⟩ v4').heap.size = W.heap.size := World.size_setCell _ _ _
        have hNC0 : NoCellsKept W.heap.size W (W.setCell ⟨w1.heap.size + 1 + 1, 0, none⟩ v4') := NoCellsKept.step (n := W.heap.size) (A := W) (B := W) ⟨Nat.le_refl _, fun _ _ _ h _ => h⟩ hg0 (fun r e _ => by cases e; exact ⟨_, _, _, hB4⟩)
        generalize W.setCell ⟨w1.heap.size + 1 + 1, 0, none⟩ v4' = W0 at hD0 hg0 hsz0 hNC0 ⊢
        clear hg0
        have b5 := Boxed.new W0 3 (.int .i64 at_)
        have b6 := Boxed.new (W0.alloc (.cells #[.int .i64 at_] 3)) 22 (.slice A0 l0.length c0)
        have b7 := Boxed.new ((W0.alloc (.cells #[.int .i64 at_] 3)).alloc (.cells #[.slice A0 l0.length c0] 22)) 3 (.int .i64 at_)
        rw [World.size_alloc, hsz0] at b6
        rw [World.size_alloc, World.size_alloc, hsz0] at b7
        rw [hsz0] at b5
        replace b5 := (b5.alloc (.cells #[.slice A0 l0.length c0] 22)).alloc (.cells #[.int .i64 at_] 3)
        replace b6 := b6.alloc (.cells #[.int .i64 at_] 3)
        have hDb := (((hD0.okk (ok' := fun k => k ≠ g1 ∧ ¬ (W.heap.size ≤ k ∧ k < W.heap.size + 3)) (fun k hk hl => ⟨hk, by omega⟩)).alloc (.cells #[.int .i64 at_] 3)).alloc (.cells #[.slice A0 l0.length c0] 22)).alloc (.cells #[.int .i64 at_] 3)
        have hszb : (((W0.alloc (.cells #[.int .i64 at_] 3)).alloc (.cells #[.slice A0 l0.length c0] 22)).alloc (.cells #[.int .i64 at_] 3)).heap.size = W.heap.size + 3 := by simp only [World.size_alloc, hsz0]
        have hNCb := ((hNC0.step (World.grownBy_alloc _ (.cells #[.int .i64 at_] 3) none) (fun r e _ => by cases e)).step (World.grownBy_alloc _ (.cells #[.slice A0 l0.length c0] 22) none) (fun r e _ => by cases e)).step (World.grownBy_alloc _ (.cells #[.int .i64 at_] 3) none) (fun r e _ => by cases e)
        clear hD0 hNC0
        generalize ((W0.alloc (.cells #[.int .i64 at_] 3)).alloc (.cells #[.slice A0 l0.length c0] 22)).alloc (.cells #[.int .i64 at_] 3) = Wb at hDb hszb hNCb b5 b6 b7 ⊢
        clear hsz0 W0
        have hkk := hk.out
        simp only [distL] at hkk
        obtain ⟨fl, hf, hkk⟩ := Option.bind_eq_some_iff.1 hkk
        obtain ⟨⟨t, j⟩, ht, hkk⟩ := Option.bind_eq_some_iff.1 hkk
        obtain ⟨s, hvs, hrest⟩ := Option.bind_eq_some_iff.1 hkk
        obtain ⟨hin, hsl, hsq⟩ := distVisits_in hvs
        have hAt : 0 ≤ at_ ∧ at_ < (l0.length : Int) := flow_falls_in hf
        have hol' := hol.out
        have hql' := hql.out
        obtain ⟨x1, hx1⟩ : ∃ x1 : {x : Int // 0 ≤ x ∧ x < (l0.length : Int)}, fl = true → x1.val = at_ + 1 := by
          cases fl with
          | false => exact ⟨⟨0, by omega⟩, fun h => by cases h⟩
          | true => exact ⟨⟨at_ + 1, by have := hin (at_ + 1) (by simp [goesL]); simp only [hol'] at this; omega⟩, fun _ => rfl⟩
        obtain ⟨x2, hx2⟩ : ∃ x2 : {x : Int // 0 ≤ x ∧ x < (l0.length : Int)}, j = true → x2.val = t := by
          cases j with
          | false => exact ⟨⟨0, by omega⟩, fun h => by cases h⟩
          | true => exact ⟨⟨t, by have := hin t (by simp [goesL]); simp only [hol'] at this; omega⟩, fun _ => rfl⟩
        have hmap := goesA_map Subtype.val fl j x1 x2 at_ t hx1 hx2
        have hyl : (goesA fl j x1 x2).length ≤ 2 := by have := congrArg List.length hmap; rw [List.length_map] at this; have := goesL_len fl at_ t j; omega
        have HSQ := Aside0.mk (goes_stopsK Subtype.val A0 c0 l0 at_ (goesA fl j x1 x2) w Wb hDb.xb HR.out hc0 HG.out (W.heap.size + 1 + 1) (W.heap.size + 1) (by omega) (by omega) b7.cell b6.cell (.inl ⟨hAt.1, hAt.2, fl, t, j, x1, x2, hx1, hx2, hf, ht, rfl⟩) 11 (by omega))
        have HVS := Aside0.mk hvs
        have HREST := Aside0.mk hrest
        clear hf ht hkk hin hvs hrest hx1 hx2 HG5
        refine wpIn_wide.1 (wpIn_rangeFunc_ownG (n := 12) (w0 := Wb) (Kp := KpAt w.heap.size (W.heap.size + 1 + 1) (W.heap.size + 1)) rfl (by omega) (gf := 42) (lb := #[.pointer (some ⟨W.heap.size + 1 + 1, 0, none⟩), .pointer (some ⟨W.heap.size + 1, 0, none⟩)]) rfl trivial (enters_of Tryd.func42 (by kernel_rfl) rfl) HSQ.out KpAt.trans (KpAt.put (w := Wb) (b := w.heap.size) (B1 := W.heap.size + 1 + 1) (B2 := W.heap.size + 1) (by have := hDb.xb.size; omega) (by omega) (by omega)) (Below.refl _ _) (encs := fun x : {x : Int // 0 ≤ x ∧ x < (l0.length : Int)} => #[Value.int .i64 x.val]) (fun _ => rfl)
          (distI w W w1.heap.size (w1.heap.size + 1 + 1) g1 l0.length cap1 at_ out q)
          (fun _ _ _ => False)
          ?own2 (fun _ _ _ _ _ hs _ _ => hs)
          ⟨⟨(out, q), ⟨by simp [distVisits]⟩, hDb⟩, b5, hNCb, by omega⟩
          (fun x => { tmps := #[.slice A0 l0.length c0, undef, .slice none 0 0, .pointer (some ⟨w1.heap.size, 0, none⟩), .pointer (some ⟨w1.heap.size + 1 + 1, 0, none⟩), .pointer (some ⟨W.heap.size, 0, none⟩), .int .i64 x.val, .slice (some ⟨w.heap.size, 0, none⟩) 1 1, .slice A0 l0.length c0, .int .i64 l0.length, .slice (some ⟨g1, 0, none⟩) l0.length cap1, .slice A0 l0.length c0, .int .i64 l0.length, .bool false, undef, .slice (some ⟨g1, 0, none⟩) l0.length cap1, .pointer (some ⟨g1, 0, none⟩), .slice (some ⟨w1.heap.size + 1, 0, none⟩) 1 1, u18', .int .i64 (q.length + 1), .bool false, u18', .pointer (some ⟨g4, o4, none⟩), .int .i64 at_, u18', v4', .slice A0 l0.length c0, .int .i64 at_, .func (.func 42) #[] #[.pointer (some ⟨W.heap.size + 1 + 1, 0, none⟩), .pointer (some ⟨W.heap.size + 1, 0, none⟩)], .int .i64 x.val, u30, u31, u32, u33, u34, u35, u36, u37, u38, u39, u40, u41, u42, u43, u44, u45, u46, u47], defers := [] })
          ?assign2 ?body2 ?done2 ?stop2)
        case own2 =>
          have hwb := hDb.xb.size
          exact fun pre A B row ⟨⟨s, hs, hD⟩, hb, hn, hz⟩ hg hr => ⟨⟨s, hs, hD.turn hg (fun r e => by have := (hr r e).1; omega) (fun r e => (hr r e).2)⟩, Boxed_turn hb hg (fun r e => (hr r e).2), hn.step hg (fun r e hlt => by have := (hr r e).1; omega), Nat.le_trans hz hg.size⟩
        case assign2 =>
          intro l x WW K hK
          gi_wp2
          exact hK
        case body2 =>
          rintro l pre ⟨x, hx0, hx1⟩ WW ⟨⟨⟨o1, q1⟩, hs, hDs⟩, hbx, hnc, hWWs⟩ hlt
          obtain ⟨_, ho1, hq1⟩ := distVisits_in hs.out
          rw [List.length_map] at hq1
          have hDD := Aside0.mk hDs
          obtain ⟨x3, xr, ⟨v4, x4, xq⟩, xb⟩ := hDs
          have hc3' : WW.cell? ⟨w1.heap.size, 0, none⟩ = some (.slice (some ⟨g1, 0, none⟩) l0.length cap1) := x3.cell
          have hcx := hbx.cell
          obtain ⟨hcA, hfA⟩ := Kd.R_celln (0 : Int) (n := l0.length) (cap := cap1) (g := g1) xr at_ hAt.1 hAt.2
          obtain ⟨hcX, hfX⟩ := Kd.R_celln (0 : Int) (n := l0.length) (cap := cap1) (g := g1) xr x hx0 hx1
          obtain ⟨vA, hvA⟩ : ∃ vA, vA = rdOf (0 : Int) o1 at_ := ⟨_, rfl⟩
          obtain ⟨vX, hvX⟩ : ∃ vX, vX = rdOf (0 : Int) o1 x := ⟨_, rfl⟩
          rw [← hvA] at hcA
          rw [← hvX] at hcX
          have hR := Aside0.mk xr
          have hX := Aside0.mk xb
          have HS := hs
          clear xr xb hs x3
          by_cases hm : vX = -1
          · rw [hm] at hcX
            gi_wp2
            refine wpIn_region_still_tail 8 (by kernel_rfl) (by kernel_rfl) (by kernel_rfl) (by rintro ⟨_, _, h⟩; simp [Exit.then, Exit.inBlock] at h; try exact h) ?_
            simp only [List.take_succ_cons, List.take_zero, List.drop_succ_cons, List.drop_zero]
            repeat still_step
            refine wpStill_nil ?_
            have hsWW : W.heap.size + 3 ≤ WW.heap.size := hWWs
            obtain ⟨hD2, hbx2, hnc2, hkf2, hkp2⟩ := dist_put hDD.out hbx hnc (by omega) hsWW x (wrap64 (rdOf 0 o1 at_ + 1))
            refine wpList_plain rfl (fun K hK => ?_)
            go_simp
            refine hK _ _ ?_
            clear hK K
            refine wpList_nil ?_
            rw [IntWalk.i64_left (rdOf 0 o1 at_ + 1)]
            have hsW2 : W.heap.size + 3 ≤ (WW.setCell ⟨g1, x.toNat, none⟩ (.int .i64 (wrap64 (rdOf 0 o1 at_ + 1)))).drew.heap.size := by show _ ≤ (WW.setCell _ _).heap.size; rw [World.size_setCell]; exact hsWW
            generalize (WW.setCell ⟨g1, x.toNat, none⟩ (.int .i64 (wrap64 (rdOf 0 o1 at_ + 1)))).drew = W2 at hD2 hbx2 hnc2 hkf2 hkp2 hsW2 ⊢
            have hbx2' := Aside0.mk hbx2
            clear hDD hbx hnc hc4 hcA hcX hfA hfX hcx hc3' hR hX xq x4 v4 hbx2
            obtain ⟨x3, xr, ⟨v4, x4, xq⟩, xb⟩ := hD2
            have hc4 := x4.cell
            have H3 := Aside0.mk x3
            have HR2 := Aside0.mk xr
            have H4 := Aside0.mk x4
            have HQ2 := Aside0.mk xq
            have HB2 := Aside0.mk xb
            clear x3 xr x4 xq xb
            gi_wp2_with (gi_at_builtin; refine wpListIn_Q_append (Kd.int .i64) (w0 := w) w.heap.size rfl _ _ 29 3 (.int .i64 0) 8 rfl Tryd.underlying29 rinfo3 rfl (by decide) (by decide) v4 q1 x [.int .i64 x] (distOk g1 W.heap.size) (fun _ => False) rfl rfl rfl (fun _ h => h.elim) (fun k hk => ⟨by omega, by omega⟩) HQ2.out HB2.out (by have := HB2.out.size; omega) (by simp at hq1 hlt hql'; omega) ?_; intro v1 W3 hQ1 hb3' hg3 _; obtain ⟨A5, c5, hv1, _⟩ := Kd.Q_slice hQ1; obtain ⟨n5, hn5⟩ : ∃ n5, n5 = (q1 ++ [x]).length := ⟨_, rfl⟩; rw [← hn5] at hv1; subst hv1; obtain ⟨hD4, hbx4, hnc4, hkf4, hkp4⟩ := dist_app (by omega) (by omega) hW4 H3.out HR2.out H4.out HQ2.out HB2.out hbx2'.out hnc2 (by omega) hsW2 hQ1 hb3' hg3; have x4' := H4.out.kept hg3 (fun e => box_ne_row H4.out (Kd.Q_typed HQ2.out _ e.symm) (by decide) rfl); have hc4' := x4'.cell; have hf4' := x4'.frozen; have hs4 := hg3.size)
            have hn6 : n5 = q1.length + 1 := by rw [hn5]; simp
            subst hn6
            refine ⟨by rw [hszb]; exact hkf2.trans hkf4, hkp2.trans hkp4, ⟨(o1.set x.toNat (wrap64 (rdOf 0 o1 at_ + 1)), q1 ++ [x]), ⟨?_⟩, hD4⟩, hbx4, hnc4, by rw [World.size_setCell]; omega⟩
            rw [List.map_append]
            refine distVisits_snoc_some HS.out ?_
            rw [distVisit_some _ _ _ hx0 (by rw [ho1, hol']; exact hx1) hAt.1 (by rw [ho1, hol']; exact hAt.2)]
            rw [if_pos (show rd o1 x = -1 from by show rdOf (0 : Int) o1 x = -1; rw [← hvX]; exact hm)]
            rfl
          · gi_wp2
            refine ⟨KeepsFrom.refl _ _, KpAt.refl _ _ _ _, ⟨(o1, q1), ⟨?_⟩, hDD.out⟩, hbx, hnc, hWWs⟩
            rw [List.map_append]
            refine distVisits_snoc_some HS.out ?_
            rw [distVisit_some _ _ _ hx0 (by rw [ho1, hol']; exact hx1) hAt.1 (by rw [ho1, hol']; exact hAt.2)]
            rw [if_neg (show ¬ rd o1 x = -1 from by show ¬ rdOf (0 : Int) o1 x = -1; rw [← hvX]; exact hm)]
        case done2 =>
          rintro D ys WW hDl hS ⟨⟨s2, hs, hDs⟩, hbx, hnc, hWWs⟩ hDd
          subst hS
          have hs2 : s2 = s := by
            have h2 := hs.out
            rw [hmap, HVS.out] at h2
            exact (Option.some.inj h2).symm
          subst hs2
          have hMk := NoCellsKept.marks hnc (Nat.le_refl _) hMM.out
          have hMk2 : Marks w.heap.size (markOf D :: ds) WW := hMk.cons (by have := hDb.xb.size; omega) hDd (fun d hd e => by
            obtain ⟨Ds, h1, h2, h3⟩ := hMM.out.h
            rw [h1] at hd
            obtain ⟨E, hE, rfl⟩ := List.mem_map.1 hd
            have hED : E = D := by simpa [markOf] using e
            have := (h3 E hE).2.1
            omega)
          have hD9 : DistAt w w1.heap.size (w1.heap.size + 1 + 1) g1 l0.length cap1 (fun k => k ≠ g1) s2.1 s2.2 WW := hDs.okk (fun k hk _ => hk.1)
          simp only [Exit.inBlock, Exit.then]
          exact hK _ _ ⟨k, Nat.lt_succ_self k, hJ k _ _ ⟨_, _, _, ⟨_, _, _, _, _, _, _, _, _, _, _, _, _, _, _, _, _, _, _, _, _, _, _, _, _, _, _, _, _, _, _, _, rfl⟩, hMk2, hD9, ⟨by rw [hsl]; exact hol'⟩, ⟨by simp at hsq hql'; have := goesL_len fl at_ t j; omega⟩, HREST⟩⟩
        case stop2 =>
          rintro D c pre WW _ _ h _
          exact h.elim

set_option maxRecDepth 100000 in
set_option maxHeartbeats 2000000 in
theorem dist_none (A0 : Option Addr) (c0 : Nat) (w : World) :
    CallsIn Fence.wide 12 Tryd.prog 17 #[.slice A0 0 c0] w fun e w' => ∃ v0_ : Value, e = .returned (v0_) ∧ Kd.R (Kd.int .i64) 3 w' w.heap.size (fun _ => True) v0_ [] ∧ Below w.heap.size w w' := by
  have hrep := Aside0.mk (repeat_none w.heap.size (w.alloc (.cells #[.int .i64 (-1)] 3)))
  refine callsIn_of_wp_marks Tryd.func17 rfl trivial (wpIn_wide.2 ?_) rfl
  simp only [Tryd.ntmps17, List.size_toArray, List.length_cons, List.length_nil, Nat.reduceAdd, Nat.reduceSub, Array.replicate_succ, Array.replicate_zero, List.push_toArray, List.append_toArray, List.nil_append, List.cons_append]
  go_wp2
  go_step3
  go_wp2_with fail
  refine hrep.out.mono ?_
  rintro e w1 ⟨v, rfl, hrow, hb1⟩
  have HO : Kd.R (Kd.int .i64) 3 w1 (w.heap.size + 1) (fun _ => True) v [] := Kd.R_of_own (by simpa [encs] using hrow) (fun _ _ => trivial)
  obtain ⟨A5, c5, rfl, _⟩ := Kd.Q_slice (Kd.Q_of_R HO)
  have HOO := Aside0.mk (Kd.R_lower HO (Nat.le_succ w.heap.size))
  have HB1 := Aside0.mk (show Below w.heap.size w w1 from ((Below.refl _ w).alloc (Nat.le_refl _) _).trans (hb1.mono (by simp)))
  clear HO hrep hrow hb1
  go_wp2
  exact ⟨_, results_tmp rfl _ _ _, ⟨_, rfl, Kd.R_alloc HOO.out _, HB1.out.alloc (by have := HB1.out.size; omega) _⟩⟩

theorem flow_Dist.calls (A0 : Option Addr) (c0 : Nat) (l0 : List S36) (r : List Int) (w : World) (hr0 : Kd.C k36 w A0 l0.length l0) (hc0 : l0.length ≤ c0) (hG : GOk w) (h : flow_Dist.f l0 = some r) :
    Calls Tryd.prog 17 #[.slice A0 l0.length c0] w fun e w' => ∃ v0_ : Value, e = .returned (v0_) ∧ Kd.R (Kd.int .i64) 3 w' w.heap.size (fun _ => True) v0_ r ∧ Below w.heap.size w w' := by
  unfold flow_Dist.f at h
  split at h
  · rename_i h0
    injection h with h
    subst h
    rw [h0]
    exact (callsIn_wide (n := 12)).1 (dist_none A0 c0 w)
  · split at h
    · exact (callsIn_wide (n := 12)).1 (dist_walk A0 c0 l0 r w hr0 hc0 hG (by omega) (by assumption) (l0.length + 2) (by omega) h)
    · cases h
end Go.Proofs.YtciilgcinicdiaaDoor.X
