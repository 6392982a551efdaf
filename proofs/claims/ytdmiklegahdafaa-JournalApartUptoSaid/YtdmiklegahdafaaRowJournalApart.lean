/- JournalApart: two logs on one disk, in turns, are, byte by byte, what each of them is alone. Conditions: none; for every input the law returns true and its argument reads behind the call as it did before. -/
import Derived.Test.YtdmiklegahdafaaRows
import Derived.Test.YtdmiklegahdafaaFnT
import Derived.Test.YtdmiklegahdafaaKUp
import Derived.JoinedCond
import Derived.WalkKit
import Derived.ProofKit
import Derived.OpenShut
import Derived.ShutString
import Derived.ChangeOld
import Derived.Below
namespace Go.Proofs.Ytdmiklegahdafaa.journalApart
open Go Go.ChangeShapes Go.WideShapes Go.ChangeAt Go.RowKit Go.Deep Go.Joins K
open Go.ChangeMaps (open_string shut_string)
set_option linter.unusedVariables false
set_option linter.unusedSimpArgs false

theorem own : ownKnob Try.prog.godebug = none := by kernel_rfl
theorem laidOut : laidOutB Try.prog = true := by kernel_rfl

set_option maxRecDepth 100000 in
theorem lifted (os : Os) (started : os.Started) (H : Type) (enc : TypeId × Value → H) (F : Stop.Interp) :
    ReturnsInHanded {} Try.checked os 7 .any ((Rows.OpenSpec.upto Rows.journalApartSpec).pre6 enc Try.prog Try.f7 Rows.journalApartUptoRow.domain false) (((Rows.OpenSpec.upto Rows.journalApartSpec).at F).post enc Try.prog Try.f7 false true false false) := by
  refine returnsInHanded_of_cond (C := Try.checked) (s := Rows.OpenSpec.upto Rows.journalApartSpec) (k := Rows.uptoSmall) rfl own started (by kernel_rfl) Try.func7
    (OpenSpec.witness (enc := enc) (C := Try.checked) (s := Rows.OpenSpec.upto Rows.journalApartSpec) (k := Rows.uptoSmall) rfl false ⟨#[], #[.agg #[.slice none 0 0, .slice none 0 0, .slice none 0 0]], []⟩ 8 (by kernel_rfl) (by kernel_rfl) (by kernel_rfl)
      (x := ([.agg [.nil, .nil, .nil]], [], [])) (by kernel_rfl) rfl (by kernel_rfl)) ?_
  intro W base args ds gs before hval0 hW _ hk _
  have hval : ∀ (j : Nat) t v, Try.f7.params[j]? = some t → args[j]? = some v → Value.okWide Try.prog W .any base t v := hval0
  have hW' := hW
  obtain ⟨p, q, hA0, hV, rfl, hfz, hnd⟩ := hW
  have hA : DataW.TrodAll enc Try.prog W 0 (fun _ => true) true Try.f7.params.toList args.toList ds p := hA0
  rw [Try.params7] at hA hval
  obtain ⟨v0, vs0, d0, ds0, p0, q0, hargs, rfl, rfl, h0, r0⟩ := trodAll_cons hA
  obtain ⟨rfl, rfl, rfl⟩ := trodAll_nil r0
  obtain rfl : args = #[v0] := by cases args; simp_all
  obtain ⟨rfl, rfl⟩ := trodVars_none hV
  have k0 := h0
  have lt0 : ∀ x ∈ p0, x.block < W.heap.size := by obtain ⟨m, hm⟩ := k0; exact DataW.trod_lt m _ _ _ hm
  obtain ⟨va, vb, vc, y0, y1, y2, nn, rfl, rfl, rfl, ha, hb, hc⟩ := open_agg3 Try.underlying60 (by kernel_rfl) (by kernel_rfl) (hval 0 60 v0 rfl rfl) h0
  have hkk : Rows.uptoBulkAll [DataW.agg [y0.1, y1.1, y2.1]] ≤ 1048576 := of_decide_eq_true (show Rows.uptoSmall H [DataW.agg [y0.1, y1.1, y2.1]] = true by simpa only [List.append_nil] using hk)
  simp only [Rows.uptoBulkAll, Rows.uptoBulk] at hkk
  obtain ⟨aPA, cPA, uPA, PA, rfl, hPA_, hPrA, hPlA⟩ := b3_of_trod Try.underlying30 Try.underlying56 Try.underlying22 Try.underlying5 (by kernel_rfl) (by kernel_rfl) (by kernel_rfl) ha
  obtain ⟨aPB, cPB, uPB, PB, rfl, hPB_, hPrB, hPlB⟩ := b3_of_trod Try.underlying30 Try.underlying56 Try.underlying22 Try.underlying5 (by kernel_rfl) (by kernel_rfl) (by kernel_rfl) hb
  obtain ⟨aC, cC, uC, CL, rfl, hC_⟩ := ri_of_trod Try.underlying34 Try.underlying3 (by kernel_rfl) hc
  clear hA0 hval0
  refine (JournalApart_ok W aPA cPA uPA PA (allH W) hPA_ allH_old aPB cPB uPB PB (allH W) hPB_ allH_old aC cC uC CL (allH W) hC_ allH_old (fun LL hL r hr => by have := hPrA LL hL r hr; omega) (fun LL hL r hr => by have := hPrB LL hL r hr; omega) (by omega) (by omega)).mono ?_
  rintro e W' ⟨v, rfl, rfl, hS⟩
  have bel := hS.toBelow
  exact ⟨_, rfl, _, _, _, [], _, [], hW', trodAll_mk1 (shut_bool Try.underlying4 _), (trodAll_cons_mk (Below.trod laidOut (by kernel_rfl) (of_decide_eq_true (by kernel_rfl)) k0 bel lt0) trodAll_mk0), rfl, bel.frame _, fun h => by cases h⟩

theorem proved : Rows.JournalApartUptoSaid :=
  OpenClaim.holds_of_cond 7 Try.f7 rfl rfl rfl rfl rfl rfl rfl ⟨rfl, rfl, rfl, rfl, rfl⟩ rfl rfl rfl rfl rfl (by kernel_rfl) Try.func7 (by kernel_rfl)
    (of_decide_eq_true (by kernel_rfl)) (by unfold Func.isWrapper; first | (rw [if_pos (by decide +kernel)]; kernel_rfl) | (rw [if_neg (by decide +kernel)]; exact ⟨rfl, rfl⟩))
    (fun os started H enc _ F => lifted os started H enc F)
#print axioms proved
end Go.Proofs.Ytdmiklegahdafaa.journalApart
