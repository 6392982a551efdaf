/- JournalSpoilt: a file with one byte as another one is refused, or tells the records ahead, or two unlike records have one sum. Conditions: none; for every input the law returns true and its argument reads behind the call as it did before. -/
import Derived.Test.YtdmiklegahdafaaRows
import Derived.Test.YtdmiklegahdafaaFnY
import Derived.Test.YtdmiklegahdafaaKUp
import Derived.JoinedCond
import Derived.WalkKit
import Derived.ProofKit
import Derived.OpenShut
import Derived.ShutString
import Derived.ChangeOld
import Derived.Below
namespace Go.Proofs.Ytdmiklegahdafaa.journalSpoilt
open Go Go.ChangeShapes Go.WideShapes Go.ChangeAt Go.RowKit Go.Deep Go.Joins K
open Go.ChangeMaps (open_string shut_string)
set_option linter.unusedVariables false
set_option linter.unusedSimpArgs false

theorem own : ownKnob Try.prog.godebug = none := by kernel_rfl
theorem laidOut : laidOutB Try.prog = true := by kernel_rfl

set_option maxRecDepth 100000 in
theorem lifted (os : Os) (started : os.Started) (H : Type) (enc : TypeId × Value → H) (F : Stop.Interp) :
    ReturnsInHanded {} Try.checked os 4 .any ((Rows.OpenSpec.upto Rows.journalSpoiltSpec).pre6 enc Try.prog Try.f4 Rows.journalSpoiltUptoRow.domain false) (((Rows.OpenSpec.upto Rows.journalSpoiltSpec).at F).post enc Try.prog Try.f4 false true false false) := by
  refine returnsInHanded_of_cond (C := Try.checked) (s := Rows.OpenSpec.upto Rows.journalSpoiltSpec) (k := Rows.uptoSmall) rfl own started (by kernel_rfl) Try.func4
    (OpenSpec.witness (enc := enc) (C := Try.checked) (s := Rows.OpenSpec.upto Rows.journalSpoiltSpec) (k := Rows.uptoSmall) rfl false ⟨#[], #[.agg #[.slice none 0 0, .int .i64 0, .int .i64 0, .int .u8 0]], []⟩ 8 (by kernel_rfl) (by kernel_rfl) (by kernel_rfl)
      (x := ([.agg [.nil, .lit (.int .i64 0), .lit (.int .i64 0), .lit (.int .u8 0)]], [], [])) (by kernel_rfl) rfl (by kernel_rfl)) ?_
  intro W base args ds gs before hval0 hW _ hk _
  have hval : ∀ (j : Nat) t v, Try.f4.params[j]? = some t → args[j]? = some v → Value.okWide Try.prog W .any base t v := hval0
  have hW' := hW
  obtain ⟨p, q, hA0, hV, rfl, hfz, hnd⟩ := hW
  have hA : DataW.TrodAll enc Try.prog W 0 (fun _ => true) true Try.f4.params.toList args.toList ds p := hA0
  rw [Try.params4] at hA hval
  obtain ⟨v0, vs0, d0, ds0, p0, q0, hargs, rfl, rfl, h0, r0⟩ := trodAll_cons hA
  obtain ⟨rfl, rfl, rfl⟩ := trodAll_nil r0
  obtain rfl : args = #[v0] := by cases args; simp_all
  obtain ⟨rfl, rfl⟩ := trodVars_none hV
  have k0 := h0
  have lt0 : ∀ x ∈ p0, x.block < W.heap.size := by obtain ⟨m, hm⟩ := k0; exact DataW.trod_lt m _ _ _ hm
  obtain ⟨va, vb, vc, vd, y0, y1, y2, y3, nn, rfl, rfl, rfl, ha, hb, hc, hd⟩ := open_agg4 Try.underlying32 (by kernel_rfl) (by kernel_rfl) (hval 0 32 v0 rfl rfl) h0
  have hkk : Rows.uptoBulkAll [DataW.agg [y0.1, y1.1, y2.1, y3.1]] ≤ 1048576 := of_decide_eq_true (show Rows.uptoSmall H [DataW.agg [y0.1, y1.1, y2.1, y3.1]] = true by simpa only [List.append_nil] using hk)
  simp only [Rows.uptoBulkAll, Rows.uptoBulk] at hkk
  obtain ⟨aP, cP, uP, PL, rfl, hP_, hPr, hPl⟩ := b3_of_trod Try.underlying30 Try.underlying56 Try.underlying22 Try.underlying5 (by kernel_rfl) (by kernel_rfl) (by kernel_rfl) ha
  obtain ⟨x, hx1, -, hx2⟩ := DataW.trod_int Try.underlying3 hb
  obtain rfl : vb = .int _ x := by simpa using hx1
  obtain ⟨y, hy1, -, hy2⟩ := DataW.trod_int Try.underlying3 hc
  obtain rfl : vc = .int _ y := by simpa using hy1
  obtain ⟨z, hz1, -, hz2⟩ := DataW.trod_int Try.underlying5 hd
  obtain rfl : vd = .int _ z := by simpa using hz1
  have hx3 := bounds_i64 hx2
  have hy3 := bounds_i64 hy2
  have hz3 := bounds_u8 hz2
  obtain ⟨zz, rfl⟩ : ∃ m : Nat, z = m := ⟨z.toNat, by omega⟩
  clear hA0 hval0
  refine (JournalSpoilt_ok W aP cP uP PL (allH W) hP_ allH_old x y zz (fun LL hL r hr => by have := hPr LL hL r hr; omega) hx3 hy3 (by omega)).mono ?_
  rintro e W' ⟨v, rfl, rfl, hS⟩
  have bel := hS.toBelow
  exact ⟨_, rfl, _, _, _, [], _, [], hW', trodAll_mk1 (shut_bool Try.underlying4 _), (trodAll_cons_mk (Below.trod laidOut (by kernel_rfl) (of_decide_eq_true (by kernel_rfl)) k0 bel lt0) trodAll_mk0), rfl, bel.frame _, fun h => by cases h⟩

theorem proved : Rows.JournalSpoiltUptoSaid :=
  OpenClaim.holds_of_cond 4 Try.f4 rfl rfl rfl rfl rfl rfl rfl ⟨rfl, rfl, rfl, rfl, rfl⟩ rfl rfl rfl rfl rfl (by kernel_rfl) Try.func4 (by kernel_rfl)
    (of_decide_eq_true (by kernel_rfl)) (by unfold Func.isWrapper; first | (rw [if_pos (by decide +kernel)]; kernel_rfl) | (rw [if_neg (by decide +kernel)]; exact ⟨rfl, rfl⟩))
    (fun os started H enc _ F => lifted os started H enc F)
#print axioms proved
end Go.Proofs.Ytdmiklegahdafaa.journalSpoilt
