/- flow's iterator over where an instruction may go on. -/
import Derived.RangeFuncNested
import Derived.RangeFuncBound
import Derived.RangeFuncCalls
import Derived.RangeFuncLeaves
import Derived.Shelf.Abstract
import Derived.Shelf.RegionOpen
import Derived.WalkKit
import Derived.OwnWalkIn
import Derived.TacticsInMore
import Derived.LoopNIn
import Derived.LoopIn
import Derived.Maps.AppendAt
import Derived.Sort.OwnSortedInts
import Derived.Lib.OwnBridge
import Derived.Test.YtciilgcinicdiaaDoorShelf
import Derived.Test.YtciilgcinicdiaaDoorXag
import Derived.Test.YtciilgcinicdiaaDoorXflowB
import Derived.Test.YtciilgcinicdiaaDoorXflow
namespace Go.Proofs.YtciilgcinicdiaaDoor.X
open Go.RowKit Go.Shelf Go.Proofs.YtciilgcinicdiaaDoorW.PrintWords Go.Proofs.YtciilgcinicdiaaDoorW.PrintLast Go.Proofs.YtciilgcinicdiaaDoorW.PrintMore
set_option linter.unusedVariables false
set_option linter.unusedSimpArgs false
attribute [local go_sem] Oper.semAt_some

def goesL (fl : Bool) (at_ : Int) (t : Int) (j : Bool) : List Int := (if fl then [at_ + 1] else []) ++ (if j then [t] else [])

def goesA {α : Type} (fl j : Bool) (x1 x2 : α) : List α := (if fl then [x1] else []) ++ (if j then [x2] else [])
/-- what a round must keep: all below b, and these two boxes. -/
structure KpAt (b B1 B2 : Nat) (W W' : World) : Prop where
  below : Below b W W'
  b1 : W'.heap[B1]? = W.heap[B1]?
  b2 : W'.heap[B2]? = W.heap[B2]?
theorem KpAt.refl (b B1 B2 : Nat) (W : World) : KpAt b B1 B2 W W := ⟨Below.refl _ _, rfl, rfl⟩
theorem KpAt.trans {b B1 B2 : Nat} {A B C : World} (h : KpAt b B1 B2 A B) (k : KpAt b B1 B2 B C) : KpAt b B1 B2 A C := ⟨h.below.trans k.below, k.b1.trans h.b1, k.b2.trans h.b2⟩
theorem KpAt.of_below {b n0 B1 B2 : Nat} {A B : World} (h : Below n0 A B) (hb : b ≤ n0) (h1 : B1 < n0) (h2 : B2 < n0) : KpAt b B1 B2 A B := ⟨h.mono hb, h.block _ h1, h.block _ h2⟩
theorem KpAt.put {b B1 B2 : Nat} {w : World} (hb : b ≤ w.heap.size) (h1 : B1 < w.heap.size) (h2 : B2 < w.heap.size) (W : World) (l : Nat) (o o' : Obj) (hl : w.heap.size ≤ l) (h : W.heap[l]? = some o) (hc : o.isCells = false) (hw : o.isWalk = false) : KpAt b B1 B2 W (W.putObj l o') :=
  ⟨belowK_b hb W l o o' hl h hc hw, World.putObj_heap_other (by omega), World.putObj_heap_other (by omega)⟩
theorem cell_of_heap {W W' : World} {B i : Nat} {v : Value} (h : W'.heap[B]? = W.heap[B]?) (hc : W.cell? ⟨B, i, none⟩ = some v) : W'.cell? ⟨B, i, none⟩ = some v := by
  unfold World.cell? at hc ⊢
  rw [h]
  exact hc
theorem goesA_eq (fl j : Bool) (at_ t : Int) : goesA fl j (at_ + 1) t = goesL fl at_ t j := rfl
theorem goesA_map {α : Type} (f : α → Int) (fl j : Bool) (x1 x2 : α) (at_ t : Int) (h1 : fl = true → f x1 = at_ + 1) (h2 : j = true → f x2 = t) : (goesA fl j x1 x2).map f = goesL fl at_ t j := by
  cases fl <;> cases j <;> simp_all [goesA, goesL]
set_option maxRecDepth 100000 in
set_option maxHeartbeats 1000000 in
theorem goes1_in {α : Type} (f : α → Int) (x1 x2 : α) (fl j : Bool) (n : Nat) (hn : 1 ≤ n) (l : Nat) (w0 : World) (hG : GOk w0) (A0 : Option Addr) (c0 : Nat) (l0 : List S36) (hr : Kd.C k36 w0 A0 l0.length l0) (hc : l0.length ≤ c0)
    (Bat Bcode : Nat) (at_ : Int) (t : Int) (h1 : 0 ≤ at_) (h2 : at_ < (l0.length : Int))
    (hx1 : fl = true → f x1 = at_ + 1) (hx2 : j = true → f x2 = t) (hf : flow_falls.f l0 at_ = some fl) (ht : flow_target.f l0 at_ = some (t, j))
    (J Jx : List α → World → Prop)
    (hY : ∀ pre x W, J pre W → pre.length < (goesA fl j x1 x2).length → YieldAt Fence.wide (n - 1) Tryd.prog l #[.int .i64 (f x)] W fun e W' =>
      (e = .returned (.bool true) ∧ J (pre ++ [x]) W' ∧ KpAt w0.heap.size Bat Bcode W W') ∨ (e = .returned (.bool false) ∧ Jx (pre ++ [x]) W'))
    (hJ : ∀ pre W W', J pre W → Below W.heap.size W W' → J pre W')
    (W : World) (hBa : Bat < W.heap.size) (hBc : Bcode < W.heap.size) (hb0 : Below w0.heap.size w0 W) (hat : W.cell? ⟨Bat, 0, none⟩ = some (.int .i64 at_)) (hcode : W.cell? ⟨Bcode, 0, none⟩ = some (.slice A0 l0.length c0)) (h0 : J [] W) :
    CallsIn Fence.wide n Tryd.prog 42 #[.func (.yield l) #[] #[], .pointer (some ⟨Bat, 0, none⟩), .pointer (some ⟨Bcode, 0, none⟩)] W fun e W' => (∃ v, e = .returned v) ∧
      ((∃ ys, ys = goesA fl j x1 x2 ∧ J ys W') ∨ (∃ pre, pre <+: goesA fl j x1 x2 ∧ Jx pre W')) := by
  have hm := hr.2.1
  have HR := Aside0.mk hr
  have HF := Aside0.mk hf
  have HT := Aside0.mk ht
  have HY := Aside0.mk hY
  have HJ := Aside0.mk hJ
  clear hr hf ht hY hJ
  refine callsIn_of_wp Tryd.func42 rfl trivial ?_ rfl
  simp only [Tryd.ntmps42, List.size_toArray, List.length_cons, List.length_nil, Nat.reduceAdd, Nat.reduceSub, Array.replicate_succ, Array.replicate_zero, List.push_toArray, List.append_toArray, List.nil_append, List.cons_append]
  cases fl with
  | true =>
    have HX1 := Aside0.mk (hx1 rfl)
    clear hx1
    gi_wp2_with (refine ⟨trivial, ?_⟩; gi_at_call 43; refine (callsIn_wide.2 (flow_falls.calls A0 c0 l0 at_ true _ (Kd.C_below HR.out hb0) hc HF.out)).mono ?_; rintro e w' ⟨rfl, ⟨nd, rfl⟩⟩; obtain ⟨fn, tmps, assign, body, hy, hR⟩ := HY.out [] x1 (W.drewN nd) (HJ.out _ _ _ h0 (pw_below_drewN (Below.refl _ _) nd)) (by simp [goesA]); rw [HX1.out] at hy)
    refine hR.mono ?_
    clear hR hy
    rintro e W3 (⟨rfl, hJ3, hk3⟩ | ⟨rfl, hJx3⟩)
    · have hb3 : Below w0.heap.size w0 W3 := (pw_below_drewN hb0 nd).trans hk3.below
      have hat3 : W3.cell? ⟨Bat, 0, none⟩ = some (.int .i64 at_) := cell_of_heap hk3.b1 hat
      have hcode3 : W3.cell? ⟨Bcode, 0, none⟩ = some (.slice A0 l0.length c0) := cell_of_heap hk3.b2 hcode
      cases j with
      | true =>
        have HX2 := Aside0.mk (hx2 rfl)
        clear hx2
        gi_wp2_with (refine ⟨trivial, ?_⟩; gi_at_call 36; refine (callsIn_wide.2 (flow_target.calls A0 c0 l0 at_ t true _ (Kd.C_below HR.out hb3) hc (GOk.below hG hb3) HT.out)).mono ?_; rintro e W4 ⟨rfl, hb4⟩; obtain ⟨fn, tmps, assign, body, hy, hR⟩ := HY.out [x1] x2 W4 (HJ.out _ _ _ hJ3 hb4) (by simp [goesA]); rw [HX2.out] at hy)
        refine hR.mono ?_
        clear hR hy
        rintro e W5 (⟨rfl, hJ5, hk5⟩ | ⟨rfl, hJx5⟩)
        · gi_wp2
          go_end0
          exact ⟨⟨_, rfl⟩, .inl ⟨_, rfl, hJ5⟩⟩
        · gi_wp2
          go_end0
          exact ⟨⟨_, rfl⟩, .inr ⟨_, List.prefix_refl _, hJx5⟩⟩
      | false =>
        gi_wp2_with (refine ⟨trivial, ?_⟩; gi_at_call 36; refine (callsIn_wide.2 (flow_target.calls A0 c0 l0 at_ t false _ (Kd.C_below HR.out hb3) hc (GOk.below hG hb3) HT.out)).mono ?_; rintro e W4 ⟨rfl, hb4⟩; have hJ4 := HJ.out _ _ _ hJ3 hb4)
        go_end0
        exact ⟨⟨_, rfl⟩, .inl ⟨_, rfl, by simpa [goesA] using hJ4⟩⟩
    · gi_wp2
      refine bodyPost_ret (results_none rfl _ _ _) rfl ?_
      exact ⟨⟨_, rfl⟩, .inr ⟨_, by simp [goesA], hJx3⟩⟩
  | false =>
    cases j with
    | true =>
      have HX2 := Aside0.mk (hx2 rfl)
      clear hx2
      gi_wp2_with (refine ⟨trivial, ?_⟩; gi_at_call 43; refine (callsIn_wide.2 (flow_falls.calls A0 c0 l0 at_ false _ (Kd.C_below HR.out hb0) hc HF.out)).mono ?_; rintro e w' ⟨rfl, ⟨nd, rfl⟩⟩)
      refine ⟨fun _ h => (by cases h), ?_⟩
      gi_wp2_with (refine ⟨trivial, ?_⟩; (gi_at_call 36; refine (callsIn_wide.2 (flow_target.calls A0 c0 l0 at_ t true _ (Kd.C_below HR.out (pw_below_drewN hb0 _)) hc (GOk.below hG (pw_below_drewN hb0 _)) HT.out)).mono ?_; rintro e W4 ⟨rfl, hb4⟩; obtain ⟨fn, tmps, assign, body, hy, hR⟩ := HY.out [] x2 W4 (HJ.out _ _ _ (HJ.out _ _ _ h0 (pw_below_drewN (Below.refl _ _) nd)) hb4) (by simp [goesA]); rw [HX2.out] at hy))
      refine hR.mono ?_
      clear hR hy
      rintro e W5 (⟨rfl, hJ5, hk5⟩ | ⟨rfl, hJx5⟩)
      · gi_wp2
        go_end0
        exact ⟨⟨_, rfl⟩, .inl ⟨_, rfl, by simpa [goesA] using hJ5⟩⟩
      · gi_wp2
        go_end0
        exact ⟨⟨_, rfl⟩, .inr ⟨_, by simp [goesA], hJx5⟩⟩
    | false =>
      gi_wp2_with (refine ⟨trivial, ?_⟩; gi_at_call 43; refine (callsIn_wide.2 (flow_falls.calls A0 c0 l0 at_ false _ (Kd.C_below HR.out hb0) hc HF.out)).mono ?_; rintro e w' ⟨rfl, ⟨nd, rfl⟩⟩)
      refine ⟨fun _ h => (by cases h), ?_⟩
      gi_wp2_with (refine ⟨trivial, ?_⟩; (gi_at_call 36; refine (callsIn_wide.2 (flow_target.calls A0 c0 l0 at_ t false _ (Kd.C_below HR.out (pw_below_drewN hb0 _)) hc (GOk.below hG (pw_below_drewN hb0 _)) HT.out)).mono ?_; rintro e W4 ⟨rfl, hb4⟩; have hJ4 := HJ.out _ _ _ (HJ.out _ _ _ h0 (pw_below_drewN (Below.refl _ _) nd)) hb4))
      go_end0
      exact ⟨⟨_, rfl⟩, .inl ⟨_, rfl, by simpa [goesA] using hJ4⟩⟩

/-- where at is no place: nothing comes. -/
theorem goes1_none_in {α : Type} (n : Nat) (hn : 1 ≤ n) (l : Nat) (A0 : Option Addr) (c0 : Nat) (l0 : List S36) (hm : l0.length ≤ 9223372036854775807)
    (Bat Bcode : Nat) (at_ : Int) (h1 : at_ < 0 ∨ (l0.length : Int) ≤ at_)
    (J : List α → World → Prop)
    (W : World) (hat : W.cell? ⟨Bat, 0, none⟩ = some (.int .i64 at_)) (hcode : W.cell? ⟨Bcode, 0, none⟩ = some (.slice A0 l0.length c0)) (h0 : J [] W) :
    CallsIn Fence.wide n Tryd.prog 42 #[.func (.yield l) #[] #[], .pointer (some ⟨Bat, 0, none⟩), .pointer (some ⟨Bcode, 0, none⟩)] W fun e W' => (∃ v, e = .returned v) ∧ J [] W' := by
  refine callsIn_of_wp Tryd.func42 rfl trivial ?_ rfl
  simp only [Tryd.ntmps42, List.size_toArray, List.length_cons, List.length_nil, Nat.reduceAdd, Nat.reduceSub, Array.replicate_succ, Array.replicate_zero, List.push_toArray, List.append_toArray, List.nil_append, List.cons_append]
  by_cases h2 : at_ < 0
  · clear h1
    gi_wp2
    refine bodyPost_ret (results_none rfl _ _ _) rfl ?_
    exact ⟨⟨_, rfl⟩, h0⟩
  · have h3 : (l0.length : Int) ≤ at_ := by omega
    clear h1
    gi_wp2
    refine bodyPost_ret (results_none rfl _ _ _) rfl ?_
    exact ⟨⟨_, rfl⟩, h0⟩

theorem ainfo3 : (Tryd.prog.info? 3).map (fun i => (i.zero, i.size, i.bytes)) = some (some (.int .i64 0), 1, 8) := by kernel_rfl

set_option maxRecDepth 100000 in
set_option maxHeartbeats 2000000 in
theorem appendSeqNil_in (n : Nat) (hn : 2 ≤ n) (gf : Nat) (lb : Array Value) (w : World) (n0 : Nat) (hn0 : n0 ≤ w.heap.size) (S Sp : List Int → Prop) (NN : Nat) (hN : NN ≤ maxLen) (hNb : NN * 8 ≤ 140737488355328)
    (hseq : ∀ n, 1 ≤ n → SeqStopsK Fence.wide n Tryd.prog gf lb (fun x : Int => #[Value.int .i64 x]) (Below n0) S Sp NN w)
    (eg : ∀ args w, (callFunc gf args).run Tryd.prog w = .ok (.enter gf args) w) :
    CallsIn Fence.wide n Tryd.prog 48 #[.slice none 0 0, .func (.func gf) #[] lb] w fun e W' => ∃ v xs, e = .returned v ∧ S xs ∧ W'.ownsRow w.heap.size 3 1 v xs.length (xs.map (Value.int .i64)) ∧ Below w.heap.size w W' := by
  have h1 : 1 ≤ n := by omega
  obtain ⟨i0, hi, hz0, hz1, hz2⟩ := info_parts ainfo3
  have HS := Aside0.mk hseq
  have HE := Aside0.mk eg
  clear hseq eg
  refine callsIn_of_wp_marks Tryd.func48 rfl trivial ?_ rfl
  simp only [Tryd.ntmps48, List.size_toArray, List.length_cons, List.length_nil, Nat.reduceAdd, Nat.reduceSub, Array.replicate_succ, Array.replicate_zero, List.push_toArray, List.append_toArray, List.nil_append, List.cons_append]
  gi_wp2
  have bO := Boxed.new w 29 (.slice none 0 0)
  have hB0 : Below w.heap.size w (w.alloc (.cells #[.slice none 0 0] 29)) := (Below.refl _ w).alloc (Nat.le_refl _) _
  have hs1 : (w.alloc (.cells #[.slice none 0 0] 29)).heap.size = w.heap.size + 1 := by simp
  refine wpIn_rangeFunc_ownG (w0 := w) rfl h1 (gf := gf) (lb := lb) rfl trivial HE.out (HS.out (n - 1) (by omega)) belowK_t (belowK_b (by omega)) hB0 (fun _ => rfl)
    (fun pre W => (∃ v, Boxed W w.heap.size 29 v ∧ W.ownsRow w.heap.size 3 1 v pre.length (pre.map (Value.int .i64)) ∧ (v = .slice none 0 0 ↔ pre = [])) ∧ Below w.heap.size w W)
    (fun _ _ _ => False)
    (OwnFrom.and (Own.from (holdsRow_own w.heap.size w.heap.size 29 3 1 (fun pre : List Int => pre.length) (fun pre => pre.map (Value.int .i64)) (fun pre v => v = .slice none 0 0 ↔ pre = [])) _) (ownFrom_below (Nat.le_refl _) (by simp)))
    (fun _ _ _ _ _ hs _ _ => hs)
    ⟨⟨_, bO, World.ownsRow_nil _ _ _ _, by simp⟩, hB0⟩
    (fun x => { tmps := #[.slice none 0 0, .func (.func gf) #[] lb, .pointer (some ⟨w.heap.size, 0, none⟩), undef, .slice none 0 0, .int .i64 x, .func (.func gf) #[] lb, .int .i64 x, undef, undef, undef, undef, undef], defers := [] }) ?assign ?body ?done ?stop
  case assign =>
    intro l x W K hK
    gi_wp2
    exact hK
  case body =>
    rintro l pre x W ⟨⟨v, hv, hrow, hnil⟩, hB⟩ hlt
    have hc := hv.cell
    gi_wp2_with (gi_at_builtin; refine wpListIn_append_own _ rfl _ _ 29 rfl w.heap.size 3 i0 (.int .i64 0) 1 8 Tryd.underlying29 hi hz0 hz1 hz2 rfl (by decide) _ _ _ rfl (hrow.alloc _) ⟨W.heap.size, 0, none⟩ 1 1 [.int .i64 x] rfl rfl (cell_one_new _ _ _) (by simp [Value.oneCell']) (by omega) (by omega) (by have := hB.size; simp; omega) ?_; intro v' w1 hown' hgrow _; obtain ⟨g', cap', rfl⟩ := ownsRow_succ hown'; obtain ⟨hv1, hv2, hr2, hk2, hb2⟩ := hv.appended (by decide) hrow hB.size (Nat.le_refl _) hown' hgrow; have hc1 := hv1.cell; have hf1 := hv1.frozen)
    exact ⟨hk2.from _, hb2.mono hn0, ⟨_, hv2, by simpa using hr2, by simp⟩, hB.trans hb2⟩
  case done =>
    rintro D ys W hD hS ⟨⟨v, hv, hrow, hnil⟩, hB⟩ hK
    have hc := hv.cell
    gi_wp2
    refine ⟨by simp, .inl ⟨_, _, rfl, run_takeDeferred hK, ?_⟩⟩
    exact ⟨_, results_tmp rfl _ _ _, v, ys, rfl, hS, ownsRow_putObj hrow _ hK rfl, hB.trans (belowK_b (w := w) (Nat.le_refl _) W D _ _ (by simp at hD; omega) hK rfl rfl)⟩
  case stop =>
    rintro D c pre W _ _ h _
    exact h.elim

set_option maxRecDepth 100000 in
set_option maxHeartbeats 2000000 in
theorem collect_in (n : Nat) (hn : 3 ≤ n) (gf : Nat) (lb : Array Value) (w : World) (n0 : Nat) (hn0 : n0 ≤ w.heap.size) (S Sp : List Int → Prop) (NN : Nat) (hN : NN ≤ maxLen) (hNb : NN * 8 ≤ 140737488355328)
    (hseq : ∀ n, 1 ≤ n → SeqStopsK Fence.wide n Tryd.prog gf lb (fun x : Int => #[Value.int .i64 x]) (Below n0) S Sp NN w)
    (eg : ∀ args w, (callFunc gf args).run Tryd.prog w = .ok (.enter gf args) w) :
    CallsIn Fence.wide n Tryd.prog 40 #[.func (.func gf) #[] lb] w fun e W' => ∃ v xs, e = .returned v ∧ S xs ∧ W'.ownsRow w.heap.size 3 1 v xs.length (xs.map (Value.int .i64)) ∧ Below w.heap.size w W' := by
  have h1 : 1 ≤ n := by omega
  have HC := Aside0.mk (appendSeqNil_in (n - 1) (by omega) gf lb w n0 hn0 S Sp NN hN hNb hseq eg)
  clear hseq eg
  refine callsIn_of_wp Tryd.func40 rfl trivial ?_ rfl
  simp only [Tryd.ntmps40, List.size_toArray, List.length_cons, List.length_nil, Nat.reduceAdd, Nat.reduceSub, Array.replicate_succ, Array.replicate_zero, List.push_toArray, List.append_toArray, List.nil_append, List.cons_append]
  gi_wp2_with (refine ⟨trivial, ?_⟩; gi_at_call 48; refine HC.out.mono ?_; rintro e W ⟨v, xs, rfl, hS, hrow, hb⟩)
  go_ret
  exact ⟨_, _, rfl, hS, hrow, hb⟩

open Go.Sort in
set_option maxRecDepth 100000 in
set_option maxHeartbeats 2000000 in
theorem sorted_in (n : Nat) (hn : 4 ≤ n) (gf : Nat) (lb : Array Value) (w : World) (n0 : Nat) (hn0 : n0 ≤ w.heap.size) (S Sp : List Int → Prop) (NN : Nat) (hN : NN ≤ maxLen) (hNb : NN * 8 ≤ 140737488355328) (hSl : ∀ xs, S xs → xs.length ≤ NN)
    (hseq : ∀ n, 1 ≤ n → SeqStopsK Fence.wide n Tryd.prog gf lb (fun x : Int => #[Value.int .i64 x]) (Below n0) S Sp NN w)
    (eg : ∀ args w, (callFunc gf args).run Tryd.prog w = .ok (.enter gf args) w) :
    CallsIn Fence.wide n Tryd.prog 30 #[.func (.func gf) #[] lb] w fun e W' => ∃ v xs, e = .returned v ∧ S xs ∧ W'.ownsRow w.heap.size 3 1 v xs.length ((xs.mergeSort fun x y => decide (x ≤ y)).map (Value.int .i64)) ∧ Below w.heap.size w W' := by
  have h1 : 1 ≤ n := by omega
  have HSl := Aside0.mk hSl
  clear hSl
  have HC := Aside0.mk (collect_in (n - 1) (by omega) gf lb w n0 hn0 S Sp NN hN hNb hseq eg)
  clear hseq eg
  refine callsIn_of_wp Tryd.func30 rfl trivial ?_ rfl
  simp only [Tryd.ntmps30, List.size_toArray, List.length_cons, List.length_nil, Nat.reduceAdd, Nat.reduceSub, Array.replicate_succ, Array.replicate_zero, List.push_toArray, List.append_toArray, List.nil_append, List.cons_append]
  gi_wp2_with (refine ⟨trivial, ?_⟩; gi_at_call 40; refine HC.out.mono ?_; rintro e W ⟨v, ss, rfl, hS, hrow, hb⟩)
  have hsl := HSl.out ss hS
  have HS := Aside0.mk hS
  clear hS
  rcases hrow.2 with ⟨rfl, hz⟩ | ⟨gb, cap, cur, rfl, hbase, hgb, r1, r2, r3, r4⟩
  · have hss : ss = [] := List.eq_nil_of_length_eq_zero hz
    subst hss
    gi_wp2_with (refine ⟨trivial, ?_⟩; gi_at_call 41; refine (callsIn_wide.2 (Tryd.slices_Sort_int_none none 0 W)).mono ?_; rintro e w' ⟨rfl, rfl⟩)
    go_ret
    exact ⟨_, _, rfl, HS.out, by simpa using hrow, hb⟩
  · obtain ⟨g2, cap2, hv2, _, hgl, _, _, _, hH⟩ := Lib.holds_of_ownsRow hrow (by intro h; injection h with h _ _; cases h)
    injection hv2 with ha _ hc
    injection ha with ha
    injection ha with ha _ _
    subst ha; subst hc
    have hsz : ss.length < 4611686018427387904 := by omega
    have CS := Aside0.mk (Tryd.slices_Sort_int gb 0 cap ss W hH hgl hsz)
    clear hH
    gi_wp2_with (refine ⟨trivial, ?_⟩; gi_at_call 41; refine (callsIn_wide.2 CS.out).mono ?_; rintro e w' ⟨rfl, nn, os, rfl⟩)
    go_ret
    exact ⟨_, ss, rfl, HS.out, ownsRow_sortedI (by simp) hbase hgb r1 r2 r3, hb.grown (grownBy_sortedI _) hb.size (fun j hj => by cases hj; exact hbase)⟩

def nextL (fl : Bool) (at_ : Int) (t : Int) (j : Bool) : List Int := Lib.compact ((goesL fl at_ t j).mergeSort fun x y => decide (x ≤ y))
def flow_Next.f (l0 : List S36) (a1 : Int) : Option (List Int) := if 0 ≤ a1 then (if a1 < (l0.length : Int) then (flow_falls.f l0 a1).bind fun fl => (flow_target.f l0 a1).bind fun tj => some (nextL fl a1 tj.1 tj.2) else some []) else some []

/-- goes: two boxes, and the function over them. -/
theorem goes_in (n : Nat) (hn : 1 ≤ n) (A0 : Option Addr) (len c0 : Nat) (a1 : Int) (w : World) :
    CallsIn Fence.wide n Tryd.prog 31 #[.slice A0 len c0, .int .i64 a1] w fun e W' => e = .returned (.func (.func 42) #[] #[.pointer (some ⟨w.heap.size + 1, 0, none⟩), .pointer (some ⟨w.heap.size, 0, none⟩)]) ∧ W' = (w.alloc (.cells #[.slice A0 len c0] 22)).alloc (.cells #[.int .i64 a1] 3) := by
  refine callsIn_of_wp Tryd.func31 rfl trivial ?_ rfl
  simp only [Tryd.ntmps31, List.size_toArray, List.length_cons, List.length_nil, Nat.reduceAdd, Nat.reduceSub, Array.replicate_succ, Array.replicate_zero, List.push_toArray, List.append_toArray, List.nil_append, List.cons_append]
  gi_wp2
  go_ret
  exact ⟨rfl, rfl⟩

theorem goes_stopsK {α : Type} (f : α → Int) (A0 : Option Addr) (c0 : Nat) (l0 : List S36) (a1 : Int) (ys : List α) (w0 w : World) (hb0 : Below w0.heap.size w0 w) (hr : Kd.C k36 w0 A0 l0.length l0) (hc : l0.length ≤ c0) (hG : GOk w0) (Bat Bcode : Nat) (hBa : Bat < w.heap.size) (hBc : Bcode < w.heap.size)
    (hat : w.cell? ⟨Bat, 0, none⟩ = some (.int .i64 a1)) (hcode : w.cell? ⟨Bcode, 0, none⟩ = some (.slice A0 l0.length c0))
    (hy : (0 ≤ a1 ∧ a1 < (l0.length : Int) ∧ ∃ (fl : Bool) (t : Int) (j : Bool) (x1 x2 : α), (fl = true → f x1 = a1 + 1) ∧ (j = true → f x2 = t) ∧ flow_falls.f l0 a1 = some fl ∧ flow_target.f l0 a1 = some (t, j) ∧ ys = goesA fl j x1 x2) ∨ ((a1 < 0 ∨ (l0.length : Int) ≤ a1) ∧ ys = []))
    (n : Nat) (hn : 1 ≤ n) : SeqStopsK Fence.wide n Tryd.prog 42 #[.pointer (some ⟨Bat, 0, none⟩), .pointer (some ⟨Bcode, 0, none⟩)] (fun x : α => #[Value.int .i64 (f x)]) (KpAt w0.heap.size Bat Bcode) (fun xs => xs = ys) (fun pre => pre <+: ys) ys.length w := fun l J Jx W hW hJ hJx hY h0 => by
  have hat' := (hW.cell (p := ⟨Bat, 0, none⟩) hBa).trans hat
  have hcode' := (hW.cell (p := ⟨Bcode, 0, none⟩) hBc).trans hcode
  have hbW : Below w0.heap.size w0 W := hb0.trans (hW.mono hb0.size)
  rcases hy with ⟨h1, h2, fl, t, j, x1, x2, hx1, hx2, hf, ht, rfl⟩ | ⟨h1, rfl⟩
  · exact goes1_in f x1 x2 fl j n hn l w0 hG A0 c0 l0 hr hc Bat Bcode a1 t h1 h2 hx1 hx2 hf ht J Jx hY
      (fun pre A B ha hb => hJ pre A B none ha (grown_of_below hb none) (fun r e => by cases e))
      W (Nat.lt_of_lt_of_le hBa hW.size) (Nat.lt_of_lt_of_le hBc hW.size) hbW hat' hcode' h0
  · exact (goes1_none_in n hn l A0 c0 l0 hr.2.1 Bat Bcode a1 h1 J W hat' hcode' h0).mono fun e W' ⟨he, hj⟩ => ⟨he, .inl ⟨[], rfl, hj⟩⟩

theorem goes_stopsA {α : Type} (f : α → Int) (A0 : Option Addr) (c0 : Nat) (l0 : List S36) (a1 : Int) (ys : List α) (w0 w : World) (hb0 : Below w0.heap.size w0 w) (hr : Kd.C k36 w0 A0 l0.length l0) (hc : l0.length ≤ c0) (hG : GOk w0) (Bat Bcode n0 : Nat) (hn1 : n0 ≤ w.heap.size) (hn0 : w0.heap.size ≤ n0) (hBa : Bat < n0) (hBc : Bcode < n0)
    (hat : w.cell? ⟨Bat, 0, none⟩ = some (.int .i64 a1)) (hcode : w.cell? ⟨Bcode, 0, none⟩ = some (.slice A0 l0.length c0))
    (hy : (0 ≤ a1 ∧ a1 < (l0.length : Int) ∧ ∃ (fl : Bool) (t : Int) (j : Bool) (x1 x2 : α), (fl = true → f x1 = a1 + 1) ∧ (j = true → f x2 = t) ∧ flow_falls.f l0 a1 = some fl ∧ flow_target.f l0 a1 = some (t, j) ∧ ys = goesA fl j x1 x2) ∨ ((a1 < 0 ∨ (l0.length : Int) ≤ a1) ∧ ys = []))
    (n : Nat) (hn : 1 ≤ n) : SeqStopsK Fence.wide n Tryd.prog 42 #[.pointer (some ⟨Bat, 0, none⟩), .pointer (some ⟨Bcode, 0, none⟩)] (fun x : α => #[Value.int .i64 (f x)]) (Below n0) (fun xs => xs = ys) (fun pre => pre <+: ys) ys.length w := fun l J Jx W hW hJ hJx hY h0 =>
  goes_stopsK f A0 c0 l0 a1 ys w0 w hb0 hr hc hG Bat Bcode (by omega) (by omega) hat hcode hy n hn l J Jx W hW hJ hJx (fun pre x W1 hj hp => by
    obtain ⟨fn, tmps, assign, body, hy, hR⟩ := hY pre x W1 hj hp
    exact ⟨fn, tmps, assign, body, hy, hR.mono (fun e W' h => h.imp (fun ⟨a, b, c⟩ => ⟨a, b, KpAt.of_below c hn0 hBa hBc⟩) id)⟩) h0

theorem goes_stops (A0 : Option Addr) (c0 : Nat) (l0 : List S36) (a1 : Int) (ys : List Int) (w0 w : World) (hb0 : Below w0.heap.size w0 w) (hr : Kd.C k36 w0 A0 l0.length l0) (hc : l0.length ≤ c0) (hG : GOk w0) (Bat Bcode n0 : Nat) (hn1 : n0 ≤ w.heap.size) (hn0 : w0.heap.size ≤ n0) (hBa : Bat < n0) (hBc : Bcode < n0)
    (hat : w.cell? ⟨Bat, 0, none⟩ = some (.int .i64 a1)) (hcode : w.cell? ⟨Bcode, 0, none⟩ = some (.slice A0 l0.length c0))
    (hy : (0 ≤ a1 ∧ a1 < (l0.length : Int) ∧ ∃ fl t j, flow_falls.f l0 a1 = some fl ∧ flow_target.f l0 a1 = some (t, j) ∧ ys = goesL fl a1 t j) ∨ ((a1 < 0 ∨ (l0.length : Int) ≤ a1) ∧ ys = []))
    (n : Nat) (hn : 1 ≤ n) : SeqStopsK Fence.wide n Tryd.prog 42 #[.pointer (some ⟨Bat, 0, none⟩), .pointer (some ⟨Bcode, 0, none⟩)] (fun x : Int => #[Value.int .i64 x]) (Below n0) (fun xs => xs = ys) (fun pre => pre <+: ys) ys.length w :=
  goes_stopsA id A0 c0 l0 a1 ys w0 w hb0 hr hc hG Bat Bcode n0 hn1 hn0 hBa hBc hat hcode (hy.imp (fun ⟨h1, h2, fl, t, j, hf, ht, e⟩ => ⟨h1, h2, fl, t, j, a1 + 1, t, fun _ => rfl, fun _ => rfl, hf, ht, e⟩) id) n hn

open Go.Sort in
set_option maxRecDepth 100000 in
set_option maxHeartbeats 2000000 in
/-- the walk of Next, ys being what the iterator gives. -/
theorem flow_Next.walk (A0 : Option Addr) (c0 : Nat) (l0 : List S36) (a1 : Int) (ys zs : List Int) (hz : (ys.mergeSort fun x y => decide (x ≤ y)) = zs) (w : World) (hr0 : Kd.C k36 w A0 l0.length l0) (hc0 : l0.length ≤ c0) (hG : GOk w) (hys : ys.length ≤ 2)
    (hy : (0 ≤ a1 ∧ a1 < (l0.length : Int) ∧ ∃ fl t j, flow_falls.f l0 a1 = some fl ∧ flow_target.f l0 a1 = some (t, j) ∧ ys = goesL fl a1 t j) ∨ ((a1 < 0 ∨ (l0.length : Int) ≤ a1) ∧ ys = [])) :
    Calls Tryd.prog 13 #[.slice A0 l0.length c0, .int .i64 a1] w fun e w' => ∃ v0_ : Value, e = .returned (v0_) ∧ Kd.R (Kd.int .i64) 3 w' w.heap.size (fun _ => True) v0_ (Lib.compact zs) ∧ Below w.heap.size w w' := by
  have hzl : zs.length = ys.length := by rw [← hz]; simp
  have hB2 : Below w.heap.size w ((w.alloc (.cells #[.slice A0 l0.length c0] 22)).alloc (.cells #[.int .i64 a1] 3)) := ((Below.refl _ w).alloc (Nat.le_refl _) _).alloc (by simp) _
  have hs2 : ((w.alloc (.cells #[.slice A0 l0.length c0] 22)).alloc (.cells #[.int .i64 a1] 3)).heap.size = w.heap.size + 2 := by simp
  have bC := Boxed.new w 22 (.slice A0 l0.length c0)
  have bA := Boxed.new (w.alloc (.cells #[.slice A0 l0.length c0] 22)) 3 (.int .i64 a1)
  rw [World.size_alloc] at bA
  have HQ := Aside0.mk (fun n (hn : 1 ≤ n) => goes_stops A0 c0 l0 a1 ys w _ hB2 hr0 hc0 hG (w.heap.size + 1) w.heap.size (w.heap.size + 2) (by omega) (by omega) (by omega) (by omega) bA.cell (bC.alloc _).cell hy n hn)
  have HSD0 := Aside0.mk (sorted_in 5 (by omega) 42 #[.pointer (some ⟨w.heap.size + 1, 0, none⟩), .pointer (some ⟨w.heap.size, 0, none⟩)] _ (w.heap.size + 2) (by omega) (fun xs => xs = ys) _ ys.length (by simp only [maxLen]; omega) (by omega) (fun xs h => by rw [h]; exact Nat.le_refl _) HQ.out (enters_of Tryd.func42 (by kernel_rfl) rfl))
  have HSD : Aside0 (CallsIn Fence.wide 5 Tryd.prog 30 #[Value.func (Fn.func 42) #[] #[.pointer (some ⟨w.heap.size + 1, 0, none⟩), .pointer (some ⟨w.heap.size, 0, none⟩)]] ((w.alloc (.cells #[.slice A0 l0.length c0] 22)).alloc (.cells #[.int .i64 a1] 3)) fun e W' => ∃ v, e = .returned v ∧ W'.ownsRow (w.heap.size + 2) 3 1 v zs.length (zs.map (Value.int .i64)) ∧ Below w.heap.size w W') := ⟨HSD0.out.mono (by
    rintro e W ⟨v, ss, rfl, rfl, hrow, hb⟩
    rw [hz, ← hzl, hs2] at hrow
    exact ⟨v, rfl, hrow, hB2.trans (hb.mono (by rw [hs2]; omega))⟩)⟩
  rw [← hzl] at hys
  clear HSD0 hz hzl
  have HB2 := Aside0.mk hB2
  have HS2 := Aside0.mk hs2
  clear HQ bC bA hy hG hr0 hB2 hs2
  refine (callsIn_wide (n := 6)).1 ?_
  refine callsIn_of_wp Tryd.func13 rfl trivial ?_ rfl
  simp only [Tryd.ntmps13, List.size_toArray, List.length_cons, List.length_nil, Nat.reduceAdd, Nat.reduceSub, Array.replicate_succ, Array.replicate_zero, List.push_toArray, List.append_toArray, List.nil_append, List.cons_append]
  gi_wp2_with (refine ⟨trivial, ?_⟩; first | (gi_at_call 31; refine (goes_in _ (by omega) A0 l0.length c0 a1 w).mono ?_; rintro e w' ⟨rfl, rfl⟩) | (gi_at_call 30; refine HSD.out.mono ?_; rintro e W ⟨v, rfl, hrow, hb⟩))
  have HB := Aside0.mk hb
  clear HSD hb HB2 HS2
  rcases hrow.2 with ⟨rfl, hz⟩ | ⟨gb, cap, cur, rfl, hbase, hgb, r1, r2, r3, r4⟩
  · obtain rfl : zs = [] := List.eq_nil_of_length_eq_zero hz
    gi_wp2_with (refine ⟨trivial, ?_⟩; gi_at_call 29; refine (callsIn_wide.2 (Tryd.slices_Compact_int_empty none 0 W)).mono ?_; rintro e w' ⟨rfl, rfl⟩)
    go_ret
    exact ⟨_, rfl, Kd.R_nil _ _ _ _ _, HB.out⟩
  · obtain ⟨g2, cap2, hv2, _, hgl, hnc, _, _, hH⟩ := Lib.holds_of_ownsRow hrow (by intro h; injection h with h _ _; cases h)
    injection hv2 with ha _ hc
    injection ha with ha
    injection ha with ha _ _
    subst ha; subst hc
    have CS := Aside0.mk (Tryd.slices_Compact_int gb 0 cap zs W hH (by omega) (by omega))
    clear hH
    gi_wp2_with (refine ⟨trivial, ?_⟩; gi_at_call 29; refine (callsIn_wide.2 CS.out).mono ?_; rintro e w' ⟨rfl, q, rfl⟩)
    go_ret
    have hcl := Lib.compact_length_le zs
    have hr := Lib.ownsRow_putRow (q := q) (k := (Lib.compact zs).length) (ys := Lib.compact zs ++ List.replicate (zs.length - (Lib.compact zs).length) 0) hrow (by simp; omega) hcl
    rw [List.take_left] at hr
    exact ⟨_, rfl, Kd.R_of_own (own_weaken hr (by omega)) (fun _ _ => trivial), Lib.below_putRow HB.out (by omega)⟩

theorem goesL_len (fl : Bool) (a1 t : Int) (j : Bool) : (goesL fl a1 t j).length ≤ 2 := by cases fl <;> cases j <;> simp [goesL]
theorem flow_Next.calls (A0 : Option Addr) (c0 : Nat) (l0 : List S36) (a1 : Int) (r : List Int) (w : World) (hr0 : Kd.C k36 w A0 l0.length l0) (hc0 : l0.length ≤ c0) (hG : GOk w) (h : flow_Next.f l0 a1 = some r) :
    Calls Tryd.prog 13 #[.slice A0 l0.length c0, .int .i64 a1] w fun e w' => ∃ v0_ : Value, e = .returned (v0_) ∧ Kd.R (Kd.int .i64) 3 w' w.heap.size (fun _ => True) v0_ r ∧ Below w.heap.size w w' := by
  have hout : ∀ (_ : a1 < 0 ∨ (l0.length : Int) ≤ a1) (_ : r = []), Calls Tryd.prog 13 #[.slice A0 l0.length c0, .int .i64 a1] w fun e w' => ∃ v0_ : Value, e = .returned (v0_) ∧ Kd.R (Kd.int .i64) 3 w' w.heap.size (fun _ => True) v0_ r ∧ Below w.heap.size w w' := by
    rintro h1 rfl
    exact flow_Next.walk A0 c0 l0 a1 [] [] (by simp) w hr0 hc0 hG (by simp) (.inr ⟨h1, rfl⟩)
  unfold flow_Next.f at h
  split at h
  · split at h
    · rename_i h1 h2
      obtain ⟨fl, hf, h⟩ := Option.bind_eq_some_iff.1 h
      obtain ⟨⟨t, j⟩, ht, h⟩ := Option.bind_eq_some_iff.1 h
      injection h with h
      subst h
      exact flow_Next.walk A0 c0 l0 a1 (goesL fl a1 t j) _ rfl w hr0 hc0 hG (goesL_len _ _ _ _) (.inl ⟨h1, h2, fl, t, j, hf, ht, rfl⟩)
    · injection h with h
      exact hout (.inr (by omega)) h.symm
  · injection h with h
    exact hout (.inl (by omega)) h.symm
end Go.Proofs.YtciilgcinicdiaaDoor.X
