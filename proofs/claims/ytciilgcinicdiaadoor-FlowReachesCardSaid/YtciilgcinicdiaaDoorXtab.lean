/- The row's list gives what the package's table holds; the reading of an argument of instructions. -/
import Derived.Test.YtciilgcinicdiaaDoorRows
import Derived.Test.YtciilgcinicdiaaDoorXag
import Derived.Test.YtciilgcinicdiaaDoorXopen
import Derived.Lib.LaidTab
namespace Go.Proofs.YtciilgcinicdiaaDoor.X
open Go.RowKit Go.Proofs.YtciilgcinicdiaaDoorW.PrintWords Go.Proofs.YtciilgcinicdiaaDoorW.PrintLast Go.Proofs.YtciilgcinicdiaaDoorW.PrintMore
set_option linter.unusedVariables false

theorem cells_of_strs {H : Type} {enc : TypeId × Value → H} {P : Program} {w : World} {base : Nat} {sp : Nat → Bool} {held : Bool} {fuel : Nat} {t e : TypeId} {n : Nat} {cs : List Value} {zs : List (List UInt8)} {p : List MemPlace}
    (ht : P.underlying t = some (.array n e)) (he : P.underlying e = some .string) (hce : P.cellsOf e = 1) (hct : P.cellsOf t = n)
    (h : DataW.trod enc P w base sp held fuel t cs = some ((.agg (zs.map fun z => .lit (.string z)) : DataW H), p)) : cs = zs.map fun z => Value.string ⟨z.toArray⟩ := by
  cases fuel with
  | zero => simp [DataW.trod] at h
  | succ fuel =>
    simp only [DataW.trod, ht, hce, hct, Nat.mul_one] at h
    split at h
    · rename_i hl
      obtain ⟨xs, hm, hx⟩ := Option.map_eq_some_iff.1 h
      have hxs : xs.map (·.1) = zs.map fun z => (DataW.lit (.string z) : DataW H) := by
        have := congrArg Prod.fst hx
        simpa using this
      have hxl : xs.length = n := by simpa using Lib.mapM_length hm
      have hzl : zs.length = n := by
        have := congrArg List.length hxs
        simp at this
        omega
      apply List.ext_getElem?
      intro i
      by_cases hi : i < n
      · obtain ⟨b, hb, hf⟩ := Lib.mapM_at hm i i (by simp [hi])
        obtain ⟨s, hc, rfl, _⟩ := DataW.trod_string he hf
        have h1 : cs[i]? = some (.string s) := by
          have := congrArg (·[0]?) hc
          simpa [List.getElem?_take, List.getElem?_drop] using this
        have h2 : (xs.map (·.1))[i]? = some (DataW.lit (.string s.data.toList) : DataW H) := by simp [hb]
        rw [hxs] at h2
        simp only [List.getElem?_map, Option.map_eq_some_iff, DataW.lit.injEq, Lit.string.injEq] at h2
        obtain ⟨z', hz', he'⟩ := h2
        simp only [h1, List.getElem?_map, hz', Option.map_some]
        rw [he']
      · rw [List.getElem?_eq_none (by omega), List.getElem?_eq_none (by simp; omega)]
    · cases h

theorem gTab : Tryd.prog.globalNamed "secateur/op.shapes" = some 0 := by kernel_rfl
theorem gTabType : (Tryd.prog.globals[0]?).map (·.type) = some 53 := by kernel_rfl
theorem cellsTab : Tryd.prog.cellsOf 53 = 33 := by kernel_rfl
theorem cellsStr : Tryd.prog.cellsOf 9 = 1 := by kernel_rfl
def shapeBytes : List (List UInt8) := opShapes.map (fun s => s.data.toList)
theorem laid_shapes {H : Type} : (Rows.laid_secateur_op_shapes : DataW H) = .agg (shapeBytes.map fun z => .lit (.string z)) := rfl
theorem GOk.of_laid {W : World} {rest : List (String × DataW Unit)} (h : laidMet Tryd.prog (("secateur/op.shapes", Rows.laid_secateur_op_shapes) :: rest) W) : GOk W := by
  obtain ⟨ps, ⟨g', t', cs, fuel, p, q, hg', ht', hvar, hd, _, _⟩, _⟩ := h
  obtain rfl := Option.some.inj (gTab.symm.trans hg')
  obtain rfl := Option.some.inj (gTabType.symm.trans ht')
  rw [laid_shapes] at hd
  have hc := cells_of_strs Tryd.underlying53 Tryd.underlying9 cellsStr cellsTab hd
  intro i hi
  have h1 := World.var?_cell gTab hvar i
  have h2 : cs[i]? = cs.toList[i]? := by simp
  have h3 : i < opShapes.length := by rw [opShapes_len]; exact hi
  refine h1.trans ?_
  rw [h2, hc]
  simp only [shapeBytes, List.getElem?_map, List.getElem?_eq_getElem h3, Option.map_some]
  have h4 : rdOf ByteArray.empty opShapes (i : Int) = opShapes[i] := by
    show opShapes.getD (i : Int).toNat ByteArray.empty = _
    rw [Int.toNat_natCast, List.getD_eq_getElem?_getD, List.getElem?_eq_getElem h3]
    rfl
  rw [h4]

theorem opens36 : ∃ Q, Opens Tryd.prog k36 36 Q :=
  ⟨_, Opens.iso (g := fun x => ⟨x.1, x.2.1, x.2.2.1, x.2.2.2.1, x.2.2.2.2.1, x.2.2.2.2.2.1, x.2.2.2.2.2.2.1, x.2.2.2.2.2.2.2.1, x.2.2.2.2.2.2.2.2⟩) (fun _ => rfl)
    (Opens.struct Tryd.underlying36 (by kernel_rfl)
      (OpensL.cons (Opens.int (by kernel_rfl)) rfl (by kernel_rfl) rfl (OpensL.cons (Opens.int (by kernel_rfl)) rfl (by kernel_rfl) rfl (OpensL.cons (Opens.int (by kernel_rfl)) rfl (by kernel_rfl) rfl
        (OpensL.cons (Opens.int (by kernel_rfl)) rfl (by kernel_rfl) rfl (OpensL.cons (Opens.int (by kernel_rfl)) rfl (by kernel_rfl) rfl (OpensL.cons (Opens.string (by kernel_rfl)) rfl (by kernel_rfl) rfl
          (OpensL.cons (Opens.string (by kernel_rfl)) rfl (by kernel_rfl) rfl (OpensL.cons (Opens.string (by kernel_rfl)) rfl (by kernel_rfl) rfl (OpensL.one (Opens.slice (by kernel_rfl) (by kernel_rfl) (Opens.int (by kernel_rfl))) rfl (by kernel_rfl)))))))))))⟩
theorem opensCode : ∃ Q : S36 → Prop, Opens Tryd.prog (Kd.slice 36 k36) 22 (fun xs => ∀ x ∈ xs, Q x) := by
  obtain ⟨Q, h⟩ := opens36
  exact ⟨Q, Opens.slice Tryd.underlying22 (by kernel_rfl) h⟩
theorem open_code {H : Type} {enc : TypeId × Value → H} {w : World} {base : Nat} {sp : Nat → Bool} {held : Bool} {A : Option Addr} {n c : Nat} {dd : DataW H} {ps : List MemPlace} (hd : DataW.Trod enc Tryd.prog w base sp held 22 (.slice A n c) dd ps) :
    ∃ xs : List S36, n = xs.length ∧ xs.length ≤ c ∧ Kd.C k36 w A xs.length xs := by
  obtain ⟨Q, h⟩ := opensCode
  obtain ⟨xs, h1, h2, h3, _⟩ := Opens.arg h hd
  exact ⟨xs, h1, h2, h3⟩
end Go.Proofs.YtciilgcinicdiaaDoor.X
