/- Contracts of functions of the program, each walked once. -/
import Derived.Test.YtdmiklegahdafaaFnJ
namespace Go.Proofs.Ytdmiklegahdafaa
open Go Go.RowKit K
namespace FK
theorem mixed : Try.prog.follows .mixedOrders = true := by kernel_rfl
theorem cb11 : callable Try.prog 11 = true := by kernel_rfl
theorem cb15 : callable Try.prog 15 = true := by kernel_rfl
theorem cb24 : callable Try.prog 24 = true := by kernel_rfl
theorem cb41 : callable Try.prog 41 = true := by kernel_rfl
theorem cb46 : callable Try.prog 46 = true := by kernel_rfl
theorem cb47 : callable Try.prog 47 = true := by kernel_rfl
theorem cb48 : callable Try.prog 48 = true := by kernel_rfl
theorem cb49 : callable Try.prog 49 = true := by kernel_rfl
theorem cb50 : callable Try.prog 50 = true := by kernel_rfl
theorem cb53 : callable Try.prog 53 = true := by kernel_rfl
theorem one3 : One Try.prog 3 = true := by kernel_rfl
theorem one30 : One Try.prog 30 = true := by kernel_rfl
theorem one37 : One Try.prog 37 = true := by kernel_rfl
theorem one43 : One Try.prog 43 = true := by kernel_rfl
theorem ti3 : (Try.prog.info? 3).map (fun i => (i.zero, i.size, i.bytes)) = some (some (.int .i64 0), 1, 8) := by kernel_rfl
theorem ti30 : (Try.prog.info? 30).map (fun i => (i.zero, i.size, i.bytes)) = some (some (.slice none 0 0), 1, 24) := by kernel_rfl
theorem ti37 : (Try.prog.info? 37).map (fun i => (i.zero, i.size, i.bytes)) = some (some (.int .i64 0), 1, 8) := by kernel_rfl
theorem ti43 : (Try.prog.info? 43).map (fun i => (i.zero, i.size, i.bytes)) = some (some (.pointer none), 1, 8) := by kernel_rfl
theorem ti5 : (Try.prog.info? 5).map (fun i => (i.zero, i.size, i.bytes)) = some (some (.int .u8 0), 1, 1) := by kernel_rfl
theorem ti56 : (Try.prog.info? 56).map (fun i => (i.zero, i.size, i.bytes)) = some (some (.slice none 0 0), 1, 24) := by kernel_rfl
theorem ti92 : (Try.prog.info? 92).map (fun i => (i.zero, i.size, i.bytes)) = some (some (.agg #[.pointer none, .string ⟨#[]⟩, .int .i64 0, .int .i64 0, .bool false]), 5, 48) := by kernel_rfl
theorem pl92 : ∀ w, (fieldPlaces (match Try.prog.underlying 92 with | some (.struct fs) => fs | _ => #[])).run Try.prog w = .ok #[(0, 1), (1, 1), (2, 1), (3, 1), (4, 1)] w := fun w => by kernel_rfl

end FK
open FK
attribute [local irreducible] Go.wpList Go.wpQuiet Go.wpStill Go.wpAny Go.Code.wp
set_option maxRecDepth 10000
set_option maxHeartbeats 8000000
set_option linter.unusedVariables false
set_option linter.unusedSimpArgs false
theorem Read_st (w0 : World) (K : List Nat) (d m : Nat) (D : Dk) (ok : D.ok) (sm : Hp) (hM : MapH U8 m none D.F sm) (s : ByteArray) (ls : s.size ≤ 1000000000000) (hS0 : St w0 K (fl [[(d, .cells (dkC 0 m D) DT (0, 0))], sm]) w0) :
  Calls Try.prog 15 #[.pointer (some ⟨d, 0, none⟩), .string s] w0 (Ret fun v w' => ∃ B e a c sg, RdD B e (D.read s) ∧ v = .tuple #[.slice a B.length c, .int .i64 (e : Nat)] ∧ Gr .u8 U8 a c B sg ∧ St w0 K (fl [[(d, .cells (dkC 0 m D) DT (0, 0))], sm, sg]) w') :=
 (Read_ok w0 K d m D ok sm hM s ls hS0).mono fun _ _ ⟨v, he, a, c, sg, hv, hG, hs⟩ => ⟨v, he, _, _, a, c, sg, RdD.of ok s, hv, hG, hs⟩
theorem New_ok (w0 : World) (x : Int) (hx : -9223372036854775808 ≤ x ∧ x ≤ 9223372036854775807) :
  Calls Try.prog 25 #[.int .i64 x] w0 (Ret fun v w' => (¬ (1 ≤ x ∧ x ≤ 268435456) → v = .tuple #[.pointer none, .int .i64 100] ∧ St w0 [] (fl []) w') ∧ (1 ≤ x ∧ x ≤ 268435456 → ∃ d m sm, v = .tuple #[.pointer (some ⟨d, 0, none⟩), .int .i64 0] ∧ MapH U8 m none [] sm ∧ St w0 [] (fl [[(d, .cells (dkC 0 m ((Dk.new x.toNat))) DT (0, 0))], sm]) w')) := by
 refine k_enter (vs := [.int .i64 x]) Try.func25 rfl Try.ntmps25 rfl ?_
 have hS : St w0 [] (fl []) w0 := St.init w0
 refine wp_seq ?_
 refine k_reg ?_
 refine s_val hS rfl rfl (r_assign rfl .c) ?_
 refine s_val hS rfl rfl (r_assign rfl .c) ?_
 refine wpList_nil ?_
 refine x_tn ?_
 refine wp_seq ?_
 refine k_reg ?_
 refine s_val hS rfl rfl (r_move rfl (.t rfl rfl)) ?_
 refine s_call rfl rfl rfl (vs := [.slice none 0 0, .int .i64 x]) ⟨.c, (.t rfl rfl), trivial⟩ cb53 (Load_nil w0 x (by omega)) ?_
 rintro _ w2 ⟨he11, he12⟩
 by_cases he1 : 1 ≤ x ∧ x ≤ 268435456
 ·
  obtain ⟨d1, m1, sm1, rfl, hM1, ht1⟩ := he12 he1
  have hS1 : St w0 [] (fl [(pa d1 0 ((((Dk.new (x).toNat).room : Nat) : Int)) (((tot ((Dk.new (x).toNat).F) : Nat) : Int)) m1 ((Dk.new (x).toNat).off) ((((Dk.new (x).toNat).writes : Nat) : Int)) ((((Dk.new (x).toNat).armed : Nat) : Int)) ((Dk.new (x).toNat).keep) ((Dk.new (x).toNat).lose)), sm1]) w2 := (hS.callL (xs := []) (xs' := []) (zs := [(pa d1 0 ((((Dk.new (x).toNat).room : Nat) : Int)) (((tot ((Dk.new (x).toNat).F) : Nat) : Int)) m1 ((Dk.new (x).toNat).off) ((((Dk.new (x).toNat).writes : Nat) : Int)) ((((Dk.new (x).toNat).armed : Nat) : Int)) ((Dk.new (x).toNat).keep) ((Dk.new (x).toNat).lose)), sm1]) [] rfl (by decide) ht1 rfl rfl).pick [0, 1] rfl (by decide)
  refine s_val hS1 rfl rfl (r_extract rfl (.t rfl rfl) rfl) ?_
  refine s_val hS1 rfl rfl (r_extract rfl (.t rfl rfl) rfl) ?_
  refine s_val hS1 rfl rfl (r_assign rfl (.t rfl rfl)) ?_
  refine s_val hS1 rfl rfl (r_assign rfl (.t rfl rfl)) ?_
  refine wpList_nil ?_
  refine x_tn ?_
  refine k_reb [(2, .pointer (some ⟨d1, 0, none⟩)), (3, .int .i64 0)] ⟨rfl, rfl, trivial⟩ fun G1 => ?_
  refine wp_ret ?_
  refine k_ret2 Try.results25 rfl rfl rfl rfl ?_
  refine ⟨_, rfl, ?_⟩
  exact ⟨fun h => absurd (show 1 ≤ x ∧ x ≤ 268435456 by omega) h, fun _ => ⟨_, _, _, rfl, hM1, hS1⟩⟩
 ·
  obtain ⟨rfl, ht1⟩ := he11 he1
  have hS1 : St w0 [] (fl []) w2 := hS.callL (xs := []) (xs' := []) (zs := []) [] rfl (by decide) ht1 rfl rfl
  refine s_val hS1 rfl rfl (r_extract rfl (.t rfl rfl) rfl) ?_
  refine s_val hS1 rfl rfl (r_extract rfl (.t rfl rfl) rfl) ?_
  refine s_val hS1 rfl rfl (r_assign rfl (.t rfl rfl)) ?_
  refine s_val hS1 rfl rfl (r_assign rfl (.t rfl rfl)) ?_
  refine wpList_nil ?_
  refine x_tn ?_
  refine k_reb [(2, .pointer none), (3, .int .i64 100)] ⟨rfl, rfl, trivial⟩ fun G2 => ?_
  refine wp_ret ?_
  refine k_ret2 Try.results25 rfl rfl rfl rfl ?_
  refine ⟨_, rfl, ?_⟩
  exact ⟨fun _ => ⟨rfl, hS1⟩, fun h => absurd h (by omega)⟩

theorem Open_ok (w0 : World) (K : List Nat) (d m : Nat) (D : Dk) (ok : D.ok) (sm : Hp) (hM : MapH U8 m none D.F sm) (s : ByteArray) (ls : s.size ≤ 1000000000000) (hw : D.writes ≤ 1000000000000) (hS0 : St w0 K (fl [[(d, .cells (dkC 0 m D) DT (0, 0))], sm]) w0) :
  Calls Try.prog 19 #[.pointer (some ⟨d, 0, none⟩), .string s] w0 (Ret fun v w' => ∃ e D1 sm' RR z, OpnS D s e D1 RR z ∧ D1.ok ∧ e ≤ 200 ∧ D1.writes ≤ D.writes + 3 ∧ MapH U8 m none D1.F sm' ∧ ((e ≠ 0 ∧ v = .tuple #[.pointer none, .slice none 0 0, .int .i64 (e : Nat)] ∧ St w0 K (fl [[(d, .cells (dkC 0 m D1) DT (0, 0))], sm']) w') ∨ (e = 0 ∧ ∃ l oa oc sgo, v = .tuple #[.pointer (some ⟨l, 0, none⟩), .slice oa RR.length oc, .int .i64 0] ∧ GrP R2 56 oa oc RR sgo ∧ St w0 K (fl [[(d, .cells (dkC 0 m D1) DT (0, 0))], [(l, .cells #[.pointer (some ⟨d, 0, none⟩), .string s, .int .i64 (z.size : Nat), .int .i64 (z.count : Nat), .bool z.off] LT (0, 0))], sm', sgo]) w'))) := by
 refine k_enterd (vs := [.pointer (some ⟨d, 0, none⟩), .string s]) Try.func19 rfl Try.ntmps19 rfl ?_
 have hS : St w0 K (fl [(pk d m D), sm]) w0 := hS0
 obtain ⟨B, eR, hrd⟩ : ∃ B e, RdD B e (D.read s) := ⟨_, _, RdD.of ok s⟩
 have hrl := hrd.len
 have hre := hrd.le
 refine wp_seq ?_
 refine k_reg ?_
 refine s_alloc rfl rfl rfl ti43 (cs := #[.pointer none]) rfl hS fun blk1 w1 hb1 hB1 hS1 => ?_
 have hS2 : St w0 K (fl [(pk d m D), [(blk1, .cells #[.pointer none] 43 (0, 0))], sm]) w1 := hS1.push 1 rfl
 refine s_alloc rfl rfl rfl ti30 (cs := #[.slice none 0 0]) rfl hS2 fun blk2 w2 hb2 hB2 hS3 => ?_
 have hS4 : St w0 K (fl [(pk d m D), [(blk1, .cells #[.pointer none] 43 (0, 0))], (bk blk2 30 (.slice none 0 0)), sm]) w2 := hS3.push 2 rfl
 refine s_alloc rfl rfl rfl ti37 (cs := #[.int .i64 0]) rfl hS4 fun blk3 w3 hb3 hB3 hS5 => ?_
 have hS6 : St w0 K (fl [(pk d m D), [(blk1, .cells #[.pointer none] 43 (0, 0))], (bk blk2 30 (.slice none 0 0)), (bk blk3 37 (.int .i64 0)), sm]) w3 := hS5.push 3 rfl
 refine wpList_nil ?_
 refine x_tn ?_
 refine k_scopeG (fun l_ m_ a_ w_ => (l_ = 0 ∧ ∃ (G : Nat → Value) (RR : List (List (List Nat))) (R : List Nat) (k : Nat) (zs : Nat) (e0 : Nat) (l : Nat) (ra : Option Addr) (rc : Nat) (oa : Option Addr) (oc : Nat) (sgb : Hp) (sgo : Hp), a_ = fr 119 [(0, .pointer (some ⟨d, 0, none⟩)), (1, .string s), (4, .pointer (some ⟨blk1, 0, none⟩)), (5, .pointer (some ⟨blk2, 0, none⟩)), (6, .pointer (some ⟨blk3, 0, none⟩)), (7, .slice ra R.length rc)] G [⟨.fn (.func 46) #[.pointer (some ⟨blk3, 0, none⟩), .pointer (some ⟨blk1, 0, none⟩), .pointer (some ⟨blk2, 0, none⟩)], #[]⟩] ∧ St w0 K (fl [(pk d m D), (bk blk1 43 (.pointer (some ⟨l, 0, none⟩))), (bk blk2 30 (.slice oa k oc)), (bk blk3 37 (.int .i64 (((e0 : Nat) : Int)))), (lk l d s (((zs : Nat) : Int)) (((k : Nat) : Int)) false), sm, sgb, sgo]) w_ ∧ (m_ = R.length + 1 ∧ k = RR.length ∧ zs = 8 + (recsL RR).length ∧ e0 ≤ 200 ∧ (eR = 0 ∨ eR = 102) ∧ B = headL ++ (recsL RR ++ R) ∧ (∀ LL ∈ RR, goodR LL) ∧ Sl .u8 ra rc R sgb ∧ GrP R2 56 oa oc RR sgo)) ∨ (l_ = 1 ∧ ∃ (G : Nat → Value) (RR : List (List (List Nat))) (R : List Nat) (k : Nat) (zs : Nat) (e0 : Nat) (l : Nat) (ra : Option Addr) (rc : Nat) (oa : Option Addr) (oc : Nat) (sgb : Hp) (sgo : Hp), a_ = fr 119 [(0, .pointer (some ⟨d, 0, none⟩)), (1, .string s), (4, .pointer (some ⟨blk1, 0, none⟩)), (5, .pointer (some ⟨blk2, 0, none⟩)), (6, .pointer (some ⟨blk3, 0, none⟩))] G [⟨.fn (.func 46) #[.pointer (some ⟨blk3, 0, none⟩), .pointer (some ⟨blk1, 0, none⟩), .pointer (some ⟨blk2, 0, none⟩)], #[]⟩] ∧ St w0 K (fl [(pk d m D), (bk blk1 43 (.pointer (some ⟨l, 0, none⟩))), (bk blk2 30 (.slice oa k oc)), (bk blk3 37 (.int .i64 (((e0 : Nat) : Int)))), (lk l d s (((zs : Nat) : Int)) (((k : Nat) : Int)) false), sm, sgb, sgo]) w_ ∧ (m_ = 0 ∧ TornR R ∧ k = RR.length ∧ zs = 8 + (recsL RR).length ∧ e0 ≤ 200 ∧ (eR = 0 ∨ eR = 102) ∧ B = headL ++ (recsL RR ++ R) ∧ (∀ LL ∈ RR, goodR LL) ∧ Sl .u8 ra rc R sgb ∧ GrP R2 56 oa oc RR sgo))) ?_ ?_
 ·
  refine wp_seq ?_
  refine k_reg ?_
  refine s_val hS6 rfl rfl (r_makeFunc rfl (vs := [.pointer (some ⟨blk3, 0, none⟩), .pointer (some ⟨blk1, 0, none⟩), .pointer (some ⟨blk2, 0, none⟩)]) ⟨(.t rfl rfl), (.t rfl rfl), (.t rfl rfl), trivial⟩) ?_
  refine s_deferv rfl rfl rfl (.t rfl rfl) ?_
  refine wpList_nil ?_
  refine x_tn ?_
  refine wp_seq ?_
  refine k_reg ?_
  refine s_val hS6 rfl rfl (r_move rfl (.t rfl rfl)) ?_
  refine s_val hS6 rfl rfl (r_move rfl (.t rfl rfl)) ?_
  refine s_call rfl rfl rfl (vs := [.pointer (some ⟨d, 0, none⟩), .string s]) ⟨(.t rfl rfl), (.t rfl rfl), trivial⟩ cb15 (Read_st w3 _ d m D ok sm hM s (by omega) (hS6.give (xs := [(pk d m D), sm]) [0, 4] rfl (by decide))) ?_
  rintro _ w5 ⟨B1, e1, ra1, rc1, sg1, hrd1, rfl, hG1, ht1⟩
  have hS9 : St w0 K (fl [(pk d m D), [(blk1, .cells #[.pointer none] 43 (0, 0))], (bk blk2 30 (.slice none 0 0)), (bk blk3 37 (.int .i64 0)), sm, sg1]) w5 := hS6.callL (xs := [(pk d m D), sm]) (xs' := [(pk d m D), sm]) (zs := [sg1]) [0, 4] rfl (by decide) ht1 rfl rfl
  have hrl1 := hrd1.len
  have hre1 := hrd1.le
  obtain ⟨rfl, rfl⟩ := hrd.same hrd1
  refine s_val hS9 rfl rfl (r_move rfl (.t rfl rfl)) ?_
  refine s_val hS9 rfl rfl (r_extract rfl (.t rfl rfl) rfl) ?_
  refine s_val hS9 rfl rfl (r_extract rfl (.t rfl rfl) rfl) ?_
  refine s_val hS9 rfl rfl (r_assign rfl (.t rfl rfl)) ?_
  refine s_storeB (m := 3) rfl rfl rfl one37 (.t rfl rfl) (.t rfl rfl) rfl hS9 rfl rfl (c' := #[.int .i64 (((eR : Nat) : Int))]) rfl (h' := (fl [(pk d m D), [(blk1, .cells #[.pointer none] 43 (0, 0))], (bk blk2 30 (.slice none 0 0)), (bk blk3 37 (.int .i64 (((eR : Nat) : Int)))), sm, sg1])) rfl fun w6 hS10 hB4 => ?_
  refine wpList_nil ?_
  refine x_tn ?_
  refine wp_seq ?_
  refine wp_seq ?_
  refine k_join (fun a_ w_ => ∃ (G : Nat → Value) (b_ : Bool), a_ = fr 119 [(0, .pointer (some ⟨d, 0, none⟩)), (1, .string s), (4, .pointer (some ⟨blk1, 0, none⟩)), (5, .pointer (some ⟨blk2, 0, none⟩)), (6, .pointer (some ⟨blk3, 0, none⟩)), (7, .slice ra1 B.length rc1), (11, .func (.func 46) #[] #[.pointer (some ⟨blk3, 0, none⟩), .pointer (some ⟨blk1, 0, none⟩), .pointer (some ⟨blk2, 0, none⟩)]), (12, .tuple #[.slice ra1 B.length rc1, .int .i64 (((eR : Nat) : Int))]), (13, .pointer (some ⟨d, 0, none⟩)), (14, .string s), (15, .tuple #[.slice ra1 B.length rc1, .int .i64 (((eR : Nat) : Int))]), (16, .slice ra1 B.length rc1), (17, .int .i64 (((eR : Nat) : Int))), (23, .bool b_)] G [⟨.fn (.func 46) #[.pointer (some ⟨blk3, 0, none⟩), .pointer (some ⟨blk1, 0, none⟩), .pointer (some ⟨blk2, 0, none⟩)], #[]⟩] ∧ St w0 K (fl [(pk d m D), [(blk1, .cells #[.pointer none] 43 (0, 0))], (bk blk2 30 (.slice none 0 0)), (bk blk3 37 (.int .i64 (((eR : Nat) : Int)))), sm, sg1]) w_ ∧ ((b_ = true → eR ≠ 0 ∧ eR ≠ 102) ∧ (b_ = false → eR = 0 ∨ eR = 102))) ?_ ?_
  ·
   refine k_reg ?_
   refine s_val hS10 rfl rfl (r_load rfl one37 (.t rfl rfl) (St.cell_own (m := 3) rfl rfl)) ?_
   by_cases c1 : eR ≠ 0
   ·
    refine s_val hS10 rfl rfl (r_cmp_t rfl rfl (.t rfl rfl) .c (show ¬ ((eR : Nat) : Int) = 0 from by omega)) ?_
    refine s_val hS10 rfl rfl (r_move rfl (.t rfl rfl)) ?_
    refine s_valg hS10 (wanted_of (j := 2) (b := true) (d := 20) rfl rfl rfl rfl) rfl (r_load rfl one37 (.t rfl rfl) (St.cell_own (m := 3) rfl rfl)) ?_
    by_cases c2 : eR ≠ 102
    ·
     refine s_valg hS10 (wanted_of (j := 2) (b := true) (d := 20) rfl rfl rfl rfl) rfl (r_cmp_t rfl rfl (.t rfl rfl) .c (show ¬ ((eR : Nat) : Int) = 102 from by omega)) ?_
     refine s_val hS10 rfl rfl (r_pick rfl (.t rfl rfl) (.t rfl rfl)) ?_
     refine wpList_nil ?_
     refine x_tn ?_
     refine ⟨_, true, fr_reb _ ⟨rfl, rfl, rfl, rfl, rfl, rfl, rfl, rfl, rfl, rfl, rfl, rfl, rfl, rfl, trivial⟩, hS10, ?_⟩
     exact ⟨fun h => ⟨by omega, by omega⟩, fun h => (nomatch h)⟩
    ·
     refine s_valg hS10 (wanted_of (j := 2) (b := true) (d := 20) rfl rfl rfl rfl) rfl (r_cmp_f rfl rfl (.t rfl rfl) .c (show ¬ (¬ ((eR : Nat) : Int) = 102) from by omega)) ?_
     refine s_val hS10 rfl rfl (r_pick rfl (.t rfl rfl) (.t rfl rfl)) ?_
     refine wpList_nil ?_
     refine x_tn ?_
     refine ⟨_, false, fr_reb _ ⟨rfl, rfl, rfl, rfl, rfl, rfl, rfl, rfl, rfl, rfl, rfl, rfl, rfl, rfl, trivial⟩, hS10, ?_⟩
     exact ⟨fun h => (nomatch h), fun h => by omega⟩
   ·
    refine s_val hS10 rfl rfl (r_cmp_f rfl rfl (.t rfl rfl) .c (show ¬ (¬ ((eR : Nat) : Int) = 0) from by omega)) ?_
    refine s_val hS10 rfl rfl (r_move rfl (.t rfl rfl)) ?_
    refine s_skip (unwanted_of (j := 2) (b := true) (b' := false) (d := 20) rfl rfl rfl rfl rfl) rfl ?_
    refine s_skip (unwanted_of (j := 2) (b := true) (b' := false) (d := 20) rfl rfl rfl rfl rfl) rfl ?_
    refine s_val hS10 rfl rfl (r_pick rfl (.t rfl rfl) .c) ?_
    refine wpList_nil ?_
    refine x_tn ?_
    refine ⟨_, false, fr_reb _ ⟨rfl, rfl, rfl, rfl, rfl, rfl, rfl, rfl, rfl, rfl, rfl, rfl, rfl, rfl, trivial⟩, hS10, ?_⟩
    exact ⟨fun h => (nomatch h), fun h => by omega⟩
  ·
   rintro _ w7 ⟨G3, b_, rfl, hS11, ⟨heT, heF⟩⟩
   cases b_
   ·
    have heR := heF rfl
    refine x_tn ?_
    refine k_f (.t rfl rfl) ?_
    refine wp_skip ?_
    refine x_tn ?_
    refine wp_seq ?_
    refine k_reg ?_
    refine s_val hS11 rfl rfl (r_move rfl (.t rfl rfl)) ?_
    refine s_val hS11 rfl rfl (r_move rfl (.t rfl rfl)) ?_
    refine s_val hS11 rfl rfl (r_build rfl Try.underlying92 ti92 pl92 (vs := [(0, .pointer (some ⟨d, 0, none⟩)), (1, .string s), (2, .int .i64 8)]) ⟨rfl, (.t rfl rfl), ⟨rfl, (.t rfl rfl), ⟨rfl, .c, trivial⟩⟩⟩ rfl) ?_
    refine s_box rfl rfl rfl (.t rfl rfl) (cs := #[.pointer (some ⟨d, 0, none⟩), .string s, .int .i64 8, .int .i64 0, .bool false]) rfl hS11 fun blk4 w8 hb4 hB5 hS12 => ?_
    have hS13 : St w0 K (fl [(pk d m D), [(blk1, .cells #[.pointer none] 43 (0, 0))], (bk blk2 30 (.slice none 0 0)), (bk blk3 37 (.int .i64 (((eR : Nat) : Int)))), (lk blk4 d s 8 0 false), sm, sg1]) w8 := hS12.push 4 rfl
    refine s_storeB (m := 1) rfl rfl rfl one43 (.t rfl rfl) (.t rfl rfl) rfl hS13 rfl rfl (c' := #[.pointer (some ⟨blk4, 0, none⟩)]) rfl (h' := (fl [(pk d m D), (bk blk1 43 (.pointer (some ⟨blk4, 0, none⟩))), (bk blk2 30 (.slice none 0 0)), (bk blk3 37 (.int .i64 (((eR : Nat) : Int)))), (lk blk4 d s 8 0 false), sm, sg1])) rfl fun w9 hS14 hB6 => ?_
    refine wpList_nil ?_
    refine x_tn ?_
    refine wp_seq ?_
    refine wp_seq ?_
    refine k_reg ?_
    refine s_val hS14 rfl rfl (r_move rfl (.t rfl rfl)) ?_
    refine s_val hS14 rfl rfl (r_len rfl rfl Try.underlying22 (.t rfl rfl)) ?_
    by_cases h31 : B.length < 8
    ·
     refine s_val hS14 rfl rfl (r_cmp_t rfl rfl (.t rfl rfl) .c (show ((B.length : Nat) : Int) < 8 from by omega)) ?_
     refine s_val hS14 rfl rfl (r_move rfl (.t rfl rfl)) ?_
     refine s_valg hS14 (wanted_of (j := 3) (b := true) (d := 32) rfl rfl rfl rfl) rfl (r_move rfl (.t rfl rfl)) ?_
     refine s_valg hS14 (wanted_of (j := 3) (b := true) (d := 32) rfl rfl rfl rfl) rfl (r_strL rfl Try.underlying22 Try.underlying5 Try.underlying9 (.t rfl rfl) (hG1.sl (by omega) hrd.fit) rfl (fun _ s_ => s_.has (i := 6) rfl) (fun _ => trivial)) ?_
     refine s_callg (wanted_of (j := 3) (b := true) (d := 32) rfl rfl rfl rfl) rfl rfl (vs := [.string (⟨#[70, 65, 84, 72, 79, 77, 74, 49]⟩), .string (strB B)]) ⟨.c, (.t rfl rfl), trivial⟩ cb47 (HasPrefix_ok w9 (⟨#[70, 65, 84, 72, 79, 77, 74, 49]⟩) (strB B) headS_size (by rw [strB_size _ hrd.fit]; omega) ) ?_
     rintro _ w10 ⟨rfl, ht2⟩
     have hS15 : St w0 K (fl [(pk d m D), (bk blk1 43 (.pointer (some ⟨blk4, 0, none⟩))), (bk blk2 30 (.slice none 0 0)), (bk blk3 37 (.int .i64 (((eR : Nat) : Int)))), (lk blk4 d s 8 0 false), sm, sg1]) w10 := hS14.callL (xs := []) (xs' := []) (zs := []) [] rfl (by decide) ht2 rfl rfl
     by_cases hpre : strL (strB B) = (strL (⟨#[70, 65, 84, 72, 79, 77, 74, 49]⟩ : ByteArray)).take (strB B).size
     ·
      refine s_asb (b' := true) (decide_eq_true hpre) ?_
      refine s_val hS15 rfl rfl (r_pick rfl (.t rfl rfl) (.t rfl rfl)) ?_
      refine wpList_nil ?_
      refine x_tn ?_
      refine k_t (.t rfl rfl) ?_
      refine wp_seq ?_
      refine k_only ?_
      refine h_start (C := fun x => Has x (fl [(bk blk1 43 (.pointer (some ⟨blk4, 0, none⟩)))])) mixed hS15 (L := [false, false, false, false, false, false, false]) rfl fun w11 hS16 => ?_
      have hH1 : Has w11 (fl [(bk blk1 43 (.pointer (some ⟨blk4, 0, none⟩)))]) := (Has.cons_ (hS16.has (i := 1) rfl) Has.nil_)
      refine h_take (i := 0) NoP.only rfl rfl rfl (by kernel_rfl) (L' := [true, false, false, false, false, false, false]) rfl (r_load rfl one43 (.t rfl rfl) (Has.cell_own (i := 0) rfl rfl)) hH1 ?_
      refine h_take (i := 1) NoP.only rfl rfl rfl (by kernel_rfl) (L' := [true, true, false, false, false, false, false]) rfl (r_load rfl one43 (.t rfl rfl) (Has.cell_own (i := 0) rfl rfl)) hH1 ?_
      refine h_take (i := 2) NoP.only rfl rfl rfl (by kernel_rfl) (L' := [true, true, true, false, false, false, false]) rfl (r_move rfl (.t rfl rfl)) hH1 ?_
      refine h_all (rs := [3]) (by kernel_rfl) (by simp) ?_
      refine List.forall_mem_cons.2 ⟨h_op rfl (wanted_none rfl) ?_, by simp⟩
      refine s_call rfl rfl rfl (vs := [.pointer (some ⟨blk4, 0, none⟩), .slice ra1 B.length rc1]) ⟨(.t rfl rfl), (.t rfl rfl), trivial⟩ cb48 (begin_ok w11 _ d m D ok blk4 8 0 false ra1 B.length rc1 (by omega) sm hM s (by omega) (by omega) (hS16.give (xs := [(lk blk4 d s 8 0 false), (pk d m D), sm]) [4, 0, 5] rfl (by decide))) ?_
      rintro _ w12 ⟨e2, D1, sm1, hst1, rfl, hM1, ht3⟩
      have hS17 : St w0 K (fl [(pk d m D1), (bk blk1 43 (.pointer (some ⟨blk4, 0, none⟩))), (bk blk2 30 (.slice none 0 0)), (bk blk3 37 (.int .i64 (((eR : Nat) : Int)))), (lk blk4 d s 8 0 false), sm1, sg1]) w12 := hS16.callL (xs := [(lk blk4 d s 8 0 false), (pk d m D), sm]) (xs' := [(lk blk4 d s 8 0 false), (pk d m D1), sm1]) (zs := []) [4, 0, 5] rfl (by decide) ht3 rfl rfl
      have hle1 := hst1.le
      have hwr1 := hst1.wr
      refine wpList_nil ?_
      refine x_tn ?_
      have hH2 : Has w12 (fl [(bk blk1 43 (.pointer (some ⟨blk4, 0, none⟩)))]) := (Has.cons_ (hS17.has (i := 1) rfl) Has.nil_)
      refine ⟨hH2, ?_⟩
      refine h_all (rs := [4]) (by kernel_rfl) (by simp) ?_
      refine List.forall_mem_cons.2 ⟨h_op rfl (wanted_none rfl) ?_, by simp⟩
      refine s_storeB (m := 1) rfl rfl rfl one43 (.t rfl rfl) (.t rfl rfl) rfl hS17 rfl rfl (c' := #[.pointer (some ⟨blk4, 0, none⟩)]) rfl (h' := (fl [(pk d m D1), (bk blk1 43 (.pointer (some ⟨blk4, 0, none⟩))), (bk blk2 30 (.slice none 0 0)), (bk blk3 37 (.int .i64 (((eR : Nat) : Int)))), (lk blk4 d s 8 0 false), sm1, sg1])) rfl fun w13 hS18 hB7 => ?_
      refine wpList_nil ?_
      refine x_tn ?_
      have hH3 : Has w13 (fl [(bk blk1 43 (.pointer (some ⟨blk4, 0, none⟩)))]) := (Has.cons_ (hS18.has (i := 1) rfl) Has.nil_)
      refine ⟨hH3, ?_⟩
      refine h_all (rs := [5]) (by kernel_rfl) (by simp) ?_
      refine List.forall_mem_cons.2 ⟨h_op rfl (wanted_none rfl) ?_, by simp⟩
      refine s_storeB (m := 2) rfl rfl rfl one30 (.t rfl rfl) .c rfl hS18 rfl rfl (c' := #[.slice none 0 0]) rfl (h' := (fl [(pk d m D1), (bk blk1 43 (.pointer (some ⟨blk4, 0, none⟩))), (bk blk2 30 (.slice none 0 0)), (bk blk3 37 (.int .i64 (((eR : Nat) : Int)))), (lk blk4 d s 8 0 false), sm1, sg1])) rfl fun w14 hS19 hB8 => ?_
      refine wpList_nil ?_
      refine x_tn ?_
      have hH4 : Has w14 (fl [(bk blk1 43 (.pointer (some ⟨blk4, 0, none⟩)))]) := (Has.cons_ (hS19.has (i := 1) rfl) Has.nil_)
      refine ⟨hH4, ?_⟩
      refine h_all (rs := [6]) (by kernel_rfl) (by simp) ?_
      refine List.forall_mem_cons.2 ⟨h_op rfl (wanted_none rfl) ?_, by simp⟩
      refine s_storeB (m := 3) rfl rfl rfl one37 (.t rfl rfl) (.t rfl rfl) rfl hS19 rfl rfl (c' := #[.int .i64 (((e2 : Nat) : Int))]) rfl (h' := (fl [(pk d m D1), (bk blk1 43 (.pointer (some ⟨blk4, 0, none⟩))), (bk blk2 30 (.slice none 0 0)), (bk blk3 37 (.int .i64 (((e2 : Nat) : Int)))), (lk blk4 d s 8 0 false), sm1, sg1])) rfl fun w15 hS20 hB9 => ?_
      refine wpList_nil ?_
      refine x_tn ?_
      have hH5 : Has w15 (fl [(bk blk1 43 (.pointer (some ⟨blk4, 0, none⟩)))]) := (Has.cons_ (hS20.has (i := 1) rfl) Has.nil_)
      refine ⟨hH5, ?_⟩
      refine h_done (by kernel_rfl) ?_
      refine only_n ?_
      refine x_tn ?_
      refine wp_ret ?_
      refine x_tr ?_
      refine j_r ?_
      refine l_defer cb46 (Open1_ok w15 _ e2 _ _ _ _ _ (hS20.give (xs := [(bk blk3 37 (.int .i64 (((e2 : Nat) : Int)))), (bk blk1 43 (.pointer (some ⟨blk4, 0, none⟩))), (bk blk2 30 (.slice none 0 0))]) [3, 1, 2] rfl (by decide))) ?_
      rintro _ w16 ⟨lv1, ov1, hz1, hnz1, ht4⟩
      have hS21 : St w0 K (fl [(pk d m D1), [(blk1, .cells #[lv1] 43 (0, 0))], [(blk2, .cells #[ov1] 30 (0, 0))], (bk blk3 37 (.int .i64 (((e2 : Nat) : Int)))), (lk blk4 d s 8 0 false), sm1, sg1]) w16 := hS20.callL (xs := [(bk blk3 37 (.int .i64 (((e2 : Nat) : Int)))), (bk blk1 43 (.pointer (some ⟨blk4, 0, none⟩))), (bk blk2 30 (.slice none 0 0))]) (xs' := [(bk blk3 37 (.int .i64 (((e2 : Nat) : Int)))), [(blk1, .cells #[lv1] 43 (0, 0))], [(blk2, .cells #[ov1] 30 (0, 0))]]) (zs := []) [3, 1, 2] rfl (by decide) ht4 rfl rfl
      refine ⟨_, tells_cells3 Try.results19 rfl rfl rfl rfl rfl rfl one43 one30 one37 (St.cell_own (m := 1) rfl rfl _ hS21) (St.cell_own (m := 2) rfl rfl _ hS21) (St.cell_own (m := 3) rfl rfl _ hS21), ?_⟩
      refine ⟨_, rfl, ?_⟩
      have hS22 : St w0 K (fl [(pk d m D1), [(blk1, .cells #[lv1] 43 (0, 0))], [(blk2, .cells #[ov1] 30 (0, 0))], (bk blk3 37 (.int .i64 (((e2 : Nat) : Int)))), (lk blk4 d s 8 0 false), sm1, sg1, []]) w16 := St.re hS21 (by simp)
      have hS23 : St w0 K (fl [(pk d m D1), (lk blk4 d s 8 0 false), sm1, []]) w16 := hS22.pick [0, 4, 5, 7] rfl (by decide)
      have hS24 : St w0 K (fl [(pk d m D1), sm1]) w16 := hS21.pick [0, 5] rfl (by decide)
      by_cases hne_ : e2 = 0
      ·
       obtain rfl := hne_
       obtain ⟨q1, q2⟩ := hz1 rfl
       subst q1; subst q2
       exact ⟨0, D1, sm1, [], _, OpnS.short hrd (by omega) h31 (head_short hrd.fit hpre) hst1, hst1.ok, by omega, by omega, hM1, .inr ⟨rfl, blk4, none, 0, [], rfl, GrP.nil, hS23⟩⟩
      have hne : e2 ≠ 0 := by omega
      exact ⟨e2, D1, sm1, [], ⟨8, 0, false⟩, OpnS.short hrd (by omega) h31 (head_short hrd.fit hpre) hst1, hst1.ok, by omega, by omega, hM1, .inl ⟨hne, by obtain ⟨q1, q2⟩ := hnz1 hne; subst q1; subst q2; rfl, hS24⟩⟩
     ·
      refine s_asb (b' := false) (decide_eq_false hpre) ?_
      refine s_val hS15 rfl rfl (r_pick rfl (.t rfl rfl) (.t rfl rfl)) ?_
      refine wpList_nil ?_
      refine x_tn ?_
      refine k_f (.t rfl rfl) ?_
      refine wp_skip ?_
      refine x_tn ?_
      refine wp_seq ?_
      refine wp_seq ?_
      refine k_reg ?_
      refine s_val hS15 rfl rfl (r_move rfl (.t rfl rfl)) ?_
      refine s_val hS15 rfl rfl (r_strL rfl Try.underlying22 Try.underlying5 Try.underlying9 (.t rfl rfl) (hG1.sl (by omega) hrd.fit) rfl (fun _ s_ => s_.has (i := 6) rfl) (fun _ => trivial)) ?_
      refine s_call rfl rfl rfl (vs := [.string (strB B), .string (⟨#[70, 65, 84, 72, 79, 77, 74, 49]⟩)]) ⟨(.t rfl rfl), .c, trivial⟩ cb47 (HasPrefix_ok w10 (strB B) (⟨#[70, 65, 84, 72, 79, 77, 74, 49]⟩) (by rw [strB_size _ hrd.fit]; omega) headS_size ) ?_
      rintro _ w17 ⟨rfl, ht5⟩
      have hS25 : St w0 K (fl [(pk d m D), (bk blk1 43 (.pointer (some ⟨blk4, 0, none⟩))), (bk blk2 30 (.slice none 0 0)), (bk blk3 37 (.int .i64 (((eR : Nat) : Int)))), (lk blk4 d s 8 0 false), sm, sg1]) w17 := hS15.callL (xs := []) (xs' := []) (zs := []) [] rfl (by decide) ht5 rfl rfl
      by_cases hpre2 : strL (⟨#[70, 65, 84, 72, 79, 77, 74, 49]⟩ : ByteArray) = (strL (strB B)).take (⟨#[70, 65, 84, 72, 79, 77, 74, 49]⟩ : ByteArray).size
      ·
       exact absurd (head_long hrd.fit hpre2) (by omega)
      ·
       refine s_asb (b' := false) (decide_eq_false hpre2) ?_
       refine s_val hS25 rfl rfl (r_lnot rfl (.t rfl rfl)) ?_
       refine wpList_nil ?_
       refine x_tn ?_
       refine k_t (.t rfl rfl) ?_
       refine wp_seq ?_
       refine k_reg ?_
       refine s_storeB (m := 1) rfl rfl rfl one43 (.t rfl rfl) .c rfl hS25 rfl rfl (c' := #[.pointer none]) rfl (h' := (fl [(pk d m D), [(blk1, .cells #[.pointer none] 43 (0, 0))], (bk blk2 30 (.slice none 0 0)), (bk blk3 37 (.int .i64 (((eR : Nat) : Int)))), (lk blk4 d s 8 0 false), sm, sg1])) rfl fun w18 hS26 hB10 => ?_
       refine s_storeB (m := 2) rfl rfl rfl one30 (.t rfl rfl) .c rfl hS26 rfl rfl (c' := #[.slice none 0 0]) rfl (h' := (fl [(pk d m D), [(blk1, .cells #[.pointer none] 43 (0, 0))], (bk blk2 30 (.slice none 0 0)), (bk blk3 37 (.int .i64 (((eR : Nat) : Int)))), (lk blk4 d s 8 0 false), sm, sg1])) rfl fun w19 hS27 hB11 => ?_
       refine s_storeB (m := 3) rfl rfl rfl one37 (.t rfl rfl) .c rfl hS27 rfl rfl (c' := #[.int .i64 111]) rfl (h' := (fl [(pk d m D), [(blk1, .cells #[.pointer none] 43 (0, 0))], (bk blk2 30 (.slice none 0 0)), (bk blk3 37 (.int .i64 111)), (lk blk4 d s 8 0 false), sm, sg1])) rfl fun w20 hS28 hB12 => ?_
       refine wpList_nil ?_
       refine x_tn ?_
       refine wp_ret ?_
       refine x_tr ?_
       refine j_r ?_
       refine l_defer cb46 (Open1_ok w20 _ 111 _ _ _ _ _ (hS28.give (xs := [(bk blk3 37 (.int .i64 111)), [(blk1, .cells #[.pointer none] 43 (0, 0))], (bk blk2 30 (.slice none 0 0))]) [3, 1, 2] rfl (by decide))) ?_
       rintro _ w21 ⟨lv2, ov2, hz2, hnz2, ht6⟩
       have hS29 : St w0 K (fl [(pk d m D), [(blk1, .cells #[lv2] 43 (0, 0))], [(blk2, .cells #[ov2] 30 (0, 0))], (bk blk3 37 (.int .i64 111)), (lk blk4 d s 8 0 false), sm, sg1]) w21 := hS28.callL (xs := [(bk blk3 37 (.int .i64 111)), [(blk1, .cells #[.pointer none] 43 (0, 0))], (bk blk2 30 (.slice none 0 0))]) (xs' := [(bk blk3 37 (.int .i64 111)), [(blk1, .cells #[lv2] 43 (0, 0))], [(blk2, .cells #[ov2] 30 (0, 0))]]) (zs := []) [3, 1, 2] rfl (by decide) ht6 rfl rfl
       refine ⟨_, tells_cells3 Try.results19 rfl rfl rfl rfl rfl rfl one43 one30 one37 (St.cell_own (m := 1) rfl rfl _ hS29) (St.cell_own (m := 2) rfl rfl _ hS29) (St.cell_own (m := 3) rfl rfl _ hS29), ?_⟩
       refine ⟨_, rfl, ?_⟩
       have hS30 : St w0 K (fl [(pk d m D), sm]) w21 := hS29.pick [0, 5] rfl (by decide)
       have hne : 111 ≠ 0 := by omega
       exact ⟨111, D, sm, [], ⟨0, 0, false⟩, OpnS.head hrd (by omega) (head_short_not hrd.fit hpre) (head_not hrd.fit hpre2), ok, by omega, by omega, hM, .inl ⟨hne, by obtain ⟨q1, q2⟩ := hnz2 hne; subst q1; subst q2; rfl, hS30⟩⟩
    ·
     refine s_val hS14 rfl rfl (r_cmp_f rfl rfl (.t rfl rfl) .c (show ¬ (((B.length : Nat) : Int) < 8) from by omega)) ?_
     refine s_val hS14 rfl rfl (r_move rfl (.t rfl rfl)) ?_
     refine s_skip (unwanted_of (j := 3) (b := true) (b' := false) (d := 32) rfl rfl rfl rfl rfl) rfl ?_
     refine s_skip (unwanted_of (j := 3) (b := true) (b' := false) (d := 32) rfl rfl rfl rfl rfl) rfl ?_
     refine s_skip (unwanted_of (j := 3) (b := true) (b' := false) (d := 32) rfl rfl rfl rfl rfl) rfl ?_
     refine s_val hS14 rfl rfl (r_pick rfl (.t rfl rfl) .c) ?_
     refine wpList_nil ?_
     refine x_tn ?_
     refine k_f (.t rfl rfl) ?_
     refine wp_skip ?_
     refine x_tn ?_
     refine wp_seq ?_
     refine wp_seq ?_
     refine k_reg ?_
     refine s_val hS14 rfl rfl (r_move rfl (.t rfl rfl)) ?_
     refine s_val hS14 rfl rfl (r_strL rfl Try.underlying22 Try.underlying5 Try.underlying9 (.t rfl rfl) (hG1.sl (by omega) hrd.fit) rfl (fun _ s_ => s_.has (i := 6) rfl) (fun _ => trivial)) ?_
     refine s_call rfl rfl rfl (vs := [.string (strB B), .string (⟨#[70, 65, 84, 72, 79, 77, 74, 49]⟩)]) ⟨(.t rfl rfl), .c, trivial⟩ cb47 (HasPrefix_ok w9 (strB B) (⟨#[70, 65, 84, 72, 79, 77, 74, 49]⟩) (by rw [strB_size _ hrd.fit]; omega) headS_size ) ?_
     rintro _ w22 ⟨rfl, ht7⟩
     have hS31 : St w0 K (fl [(pk d m D), (bk blk1 43 (.pointer (some ⟨blk4, 0, none⟩))), (bk blk2 30 (.slice none 0 0)), (bk blk3 37 (.int .i64 (((eR : Nat) : Int)))), (lk blk4 d s 8 0 false), sm, sg1]) w22 := hS14.callL (xs := []) (xs' := []) (zs := []) [] rfl (by decide) ht7 rfl rfl
     by_cases hpre2 : strL (⟨#[70, 65, 84, 72, 79, 77, 74, 49]⟩ : ByteArray) = (strL (strB B)).take (⟨#[70, 65, 84, 72, 79, 77, 74, 49]⟩ : ByteArray).size
     ·
      refine s_asb (b' := true) (decide_eq_true hpre2) ?_
      refine s_val hS31 rfl rfl (r_lnot rfl (.t rfl rfl)) ?_
      refine wpList_nil ?_
      refine x_tn ?_
      refine k_f (.t rfl rfl) ?_
      refine wp_skip ?_
      refine x_tn ?_
      refine wp_seq ?_
      refine k_reg ?_
      refine s_val hS31 rfl rfl (r_move rfl (.t rfl rfl)) ?_
      have hB8 : 8 ≤ B.length := by have q := congrArg List.length (head_pre hrd.fit hpre2); rw [List.length_append] at q; have : headL.length = 8 := rfl; omega
      have hBR : B = headL ++ (recsL [] ++ B.drop 8) := head_pre hrd.fit hpre2
      have hgd : ∀ L ∈ ([] : List (List (List Nat))), goodR L := fun L h => nomatch h
      have hrz : (recsL []).length = 0 := rfl
      have hfR : ∀ x ∈ B.drop 8, x ≤ 255 := fun x hx => hrd.fit x (List.mem_of_mem_drop hx)
      have hq1 := ((hG1.sl (by omega) hrd.fit)).le
      have hx1 : Sl .u8 (cutA ra1 8 rc1) (rc1 - 8) (B.drop 8) sg1 := (hG1.sl (by omega) hrd.fit).drop_ (by omega)
      have hn1 : (B.drop 8).length = B.length - 8 := by simp only [List.length_drop, List.length_take] <;> omega
      refine s_val hS31 rfl rfl (Rn.asSl (p' := (B.drop 8).length) rfl (by omega) rfl (r_cutl rfl Try.underlying22 ti5 (.t rfl rfl) (hG1.sl (by omega) hrd.fit) rfl (.s .c) .n .n (lw := 8) (hh := B.length) (m := rc1) (by omega) (by omega) (by omega) (by omega))) ?_
      refine s_val hS31 rfl rfl (r_assign rfl (.t rfl rfl)) ?_
      refine wpList_nil ?_
      refine x_tn ?_
      refine wp_seq ?_
      refine k_reg ?_
      refine s_val hS31 rfl rfl (r_assign rfl .c) ?_
      refine wpList_nil ?_
      refine x_tn ?_
      refine wp_seq ?_
      refine wp_label ?_
      refine x_tn ?_
      refine wp_seq ?_
      refine wp_seq ?_
      refine k_reg ?_
      refine s_val hS31 rfl rfl (r_move rfl (.t rfl rfl)) ?_
      refine s_val hS31 rfl rfl (r_len rfl rfl Try.underlying22 (.t rfl rfl)) ?_
      by_cases h0 : (B.drop 8).length = 0
      ·
       refine s_val hS31 rfl rfl (r_cmp_t rfl rfl (.t rfl rfl) .c (show (((B.drop 8).length : Nat) : Int) = 0 from by omega)) ?_
       refine wpList_nil ?_
       refine x_tn ?_
       refine k_t (.t rfl rfl) ?_
       refine wp_seq ?_
       refine k_only ?_
       refine h_start (C := fun x => Has x (fl [(bk blk1 43 (.pointer (some ⟨blk4, 0, none⟩))), (bk blk2 30 (.slice none 0 0))])) mixed hS31 (L := [false, false, false, false, false]) rfl fun w23 hS32 => ?_
       have hH6 : Has w23 (fl [(bk blk1 43 (.pointer (some ⟨blk4, 0, none⟩))), (bk blk2 30 (.slice none 0 0))]) := (Has.cons_ (hS32.has (i := 1) rfl) (Has.cons_ (hS32.has (i := 2) rfl) Has.nil_))
       refine h_take (i := 0) NoP.only rfl rfl rfl (by kernel_rfl) (L' := [true, false, false, false, false]) rfl (r_load rfl one43 (.t rfl rfl) (Has.cell_own (i := 0) rfl rfl)) hH6 ?_
       refine h_take (i := 1) NoP.only rfl rfl rfl (by kernel_rfl) (L' := [true, true, false, false, false]) rfl (r_load rfl one30 (.t rfl rfl) (Has.cell_own (i := 1) rfl rfl)) hH6 ?_
       refine h_all (rs := [2]) (by kernel_rfl) (by simp) ?_
       refine List.forall_mem_cons.2 ⟨h_op rfl (wanted_none rfl) ?_, by simp⟩
       refine s_storeB (m := 1) rfl rfl rfl one43 (.t rfl rfl) (.t rfl rfl) rfl hS32 rfl rfl (c' := #[.pointer (some ⟨blk4, 0, none⟩)]) rfl (h' := (fl [(pk d m D), (bk blk1 43 (.pointer (some ⟨blk4, 0, none⟩))), (bk blk2 30 (.slice none 0 0)), (bk blk3 37 (.int .i64 (((eR : Nat) : Int)))), (lk blk4 d s 8 0 false), sm, sg1])) rfl fun w24 hS33 hB13 => ?_
       refine wpList_nil ?_
       refine x_tn ?_
       have hH7 : Has w24 (fl [(bk blk1 43 (.pointer (some ⟨blk4, 0, none⟩))), (bk blk2 30 (.slice none 0 0))]) := (Has.cons_ (hS33.has (i := 1) rfl) (Has.cons_ (hS33.has (i := 2) rfl) Has.nil_))
       refine ⟨hH7, ?_⟩
       refine h_all (rs := [3]) (by kernel_rfl) (by simp) ?_
       refine List.forall_mem_cons.2 ⟨h_op rfl (wanted_none rfl) ?_, by simp⟩
       refine s_storeB (m := 2) rfl rfl rfl one30 (.t rfl rfl) (.t rfl rfl) rfl hS33 rfl rfl (c' := #[.slice none 0 0]) rfl (h' := (fl [(pk d m D), (bk blk1 43 (.pointer (some ⟨blk4, 0, none⟩))), (bk blk2 30 (.slice none 0 0)), (bk blk3 37 (.int .i64 (((eR : Nat) : Int)))), (lk blk4 d s 8 0 false), sm, sg1])) rfl fun w25 hS34 hB14 => ?_
       refine wpList_nil ?_
       refine x_tn ?_
       have hH8 : Has w25 (fl [(bk blk1 43 (.pointer (some ⟨blk4, 0, none⟩))), (bk blk2 30 (.slice none 0 0))]) := (Has.cons_ (hS34.has (i := 1) rfl) (Has.cons_ (hS34.has (i := 2) rfl) Has.nil_))
       refine ⟨hH8, ?_⟩
       refine h_all (rs := [4]) (by kernel_rfl) (by simp) ?_
       refine List.forall_mem_cons.2 ⟨h_op rfl (wanted_none rfl) ?_, by simp⟩
       refine s_storeB (m := 3) rfl rfl rfl one37 (.t rfl rfl) .c rfl hS34 rfl rfl (c' := #[.int .i64 0]) rfl (h' := (fl [(pk d m D), (bk blk1 43 (.pointer (some ⟨blk4, 0, none⟩))), (bk blk2 30 (.slice none 0 0)), (bk blk3 37 (.int .i64 0)), (lk blk4 d s 8 0 false), sm, sg1])) rfl fun w26 hS35 hB15 => ?_
       refine wpList_nil ?_
       refine x_tn ?_
       have hH9 : Has w26 (fl [(bk blk1 43 (.pointer (some ⟨blk4, 0, none⟩))), (bk blk2 30 (.slice none 0 0))]) := (Has.cons_ (hS35.has (i := 1) rfl) (Has.cons_ (hS35.has (i := 2) rfl) Has.nil_))
       refine ⟨hH9, ?_⟩
       refine h_done (by kernel_rfl) ?_
       refine only_n ?_
       refine x_tn ?_
       refine wp_ret ?_
       refine x_tr ?_
       refine j_r ?_
       refine l_defer cb46 (Open1_ok w26 _ 0 _ _ _ _ _ (hS35.give (xs := [(bk blk3 37 (.int .i64 0)), (bk blk1 43 (.pointer (some ⟨blk4, 0, none⟩))), (bk blk2 30 (.slice none 0 0))]) [3, 1, 2] rfl (by decide))) ?_
       rintro _ w27 ⟨lv3, ov3, hz3, hnz3, ht8⟩
       have hS36 : St w0 K (fl [(pk d m D), [(blk1, .cells #[lv3] 43 (0, 0))], [(blk2, .cells #[ov3] 30 (0, 0))], (bk blk3 37 (.int .i64 0)), (lk blk4 d s 8 0 false), sm, sg1]) w27 := hS35.callL (xs := [(bk blk3 37 (.int .i64 0)), (bk blk1 43 (.pointer (some ⟨blk4, 0, none⟩))), (bk blk2 30 (.slice none 0 0))]) (xs' := [(bk blk3 37 (.int .i64 0)), [(blk1, .cells #[lv3] 43 (0, 0))], [(blk2, .cells #[ov3] 30 (0, 0))]]) (zs := []) [3, 1, 2] rfl (by decide) ht8 rfl rfl
       refine ⟨_, tells_cells3 Try.results19 rfl rfl rfl rfl rfl rfl one43 one30 one37 (St.cell_own (m := 1) rfl rfl _ hS36) (St.cell_own (m := 2) rfl rfl _ hS36) (St.cell_own (m := 3) rfl rfl _ hS36), ?_⟩
       refine ⟨_, rfl, ?_⟩
       have hRn : (B.drop 8) = [] := List.length_eq_zero_iff.1 (by omega)
       rw [hRn, List.append_nil] at hBR
       have hS37 : St w0 K (fl [(pk d m D), [(blk1, .cells #[lv3] 43 (0, 0))], [(blk2, .cells #[ov3] 30 (0, 0))], (bk blk3 37 (.int .i64 0)), (lk blk4 d s 8 0 false), sm, sg1, []]) w27 := St.re hS36 (by simp)
       have hS38 : St w0 K (fl [(pk d m D), (lk blk4 d s 8 0 false), sm, []]) w27 := hS37.pick [0, 4, 5, 7] rfl (by decide)
       obtain ⟨q1, q2⟩ := hz3 rfl
       subst q1; subst q2
       exact ⟨0, D, sm, [], _, OpnS.clean hrd heR hBR hgd, ok, by omega, by omega, hM, .inr ⟨rfl, blk4, none, 0, [], rfl, GrP.nil, hS38⟩⟩
      ·
       refine s_val hS31 rfl rfl (r_cmp_f rfl rfl (.t rfl rfl) .c (show ¬ ((((B.drop 8).length : Nat) : Int) = 0) from by omega)) ?_
       refine wpList_nil ?_
       refine x_tn ?_
       refine k_f (.t rfl rfl) ?_
       refine wp_skip ?_
       refine x_tn ?_
       refine wp_seq ?_
       refine wp_seq ?_
       refine k_reg ?_
       refine s_val hS31 rfl rfl (r_move rfl (.t rfl rfl)) ?_
       refine s_val hS31 rfl rfl (r_len rfl rfl Try.underlying22 (.t rfl rfl)) ?_
       by_cases h8 : (B.drop 8).length < 8
       ·
        refine s_val hS31 rfl rfl (r_cmp_t rfl rfl (.t rfl rfl) .c (show (((B.drop 8).length : Nat) : Int) < 8 from by omega)) ?_
        refine wpList_nil ?_
        refine x_tn ?_
        refine k_t (.t rfl rfl) ?_
        refine wp_goto ?_
        refine x_tg ?_
        refine j_g ?_
        have hS39 : St w0 K (fl [(pk d m D), (bk blk1 43 (.pointer (some ⟨blk4, 0, none⟩))), (bk blk2 30 (.slice none 0 0)), (bk blk3 37 (.int .i64 (((eR : Nat) : Int)))), (lk blk4 d s 8 0 false), sm, sg1, []]) w22 := St.re hS31 (by simp)
        refine ⟨0, (.inr (⟨rfl, _, [], (B.drop 8), 0, 8, eR, blk4, (cutA ra1 8 rc1), (rc1 - 8), none, 0, sg1, [], fr_reb _ ⟨rfl, rfl, rfl, rfl, rfl, trivial⟩, hS39, ?_⟩))⟩
        exact ⟨rfl, torn_a h0 h8, by first | rfl | assumption | (simp; done) | (rw [List.length_append]; simp only [List.length_cons, List.length_nil]; omega), by first | rfl | assumption | omega, by omega, heR, hBR, hgd, hx1, GrP.nil⟩
       ·
        refine s_val hS31 rfl rfl (r_cmp_f rfl rfl (.t rfl rfl) .c (show ¬ ((((B.drop 8).length : Nat) : Int) < 8) from by omega)) ?_
        refine wpList_nil ?_
        refine x_tn ?_
        refine k_f (.t rfl rfl) ?_
        refine wp_skip ?_
        refine x_tn ?_
        refine wp_seq ?_
        refine k_reg ?_
        refine s_val hS31 rfl rfl (r_move rfl (.t rfl rfl)) ?_
        refine s_call rfl rfl rfl (vs := [.slice (cutA ra1 8 rc1) ((B.drop 8).length) (rc1 - 8)]) ⟨(.t rfl rfl), trivial⟩ cb49 (number_ok w22 (cutA ra1 8 rc1) (rc1 - 8) (B.drop 8) sg1 hx1 (Old.of_piece (i := 6) (xs := []) [] hS31 rfl rfl (by decide)) (by omega) ) ?_
        rintro _ w28 ⟨q1, hq2, hql1, rfl, ht9⟩
        have hS40 : St w0 K (fl [(pk d m D), (bk blk1 43 (.pointer (some ⟨blk4, 0, none⟩))), (bk blk2 30 (.slice none 0 0)), (bk blk3 37 (.int .i64 (((eR : Nat) : Int)))), (lk blk4 d s 8 0 false), sm, sg1]) w28 := hS31.callL (xs := []) (xs' := []) (zs := []) [] rfl (by decide) ht9 rfl rfl
        refine s_val hS40 rfl rfl (r_conv rfl Try.underlying25 Try.underlying3 (.t rfl rfl) (c := ((q1 : Nat) : Int)) (wn_i64 rfl (by omega))) ?_
        refine s_val hS40 rfl rfl (r_assign rfl (.t rfl rfl)) ?_
        refine wpList_nil ?_
        refine x_tn ?_
        refine wp_seq ?_
        refine wp_seq ?_
        refine k_reg ?_
        refine s_val hS40 rfl rfl (r_move rfl (.t rfl rfl)) ?_
        by_cases h4m : q1 > 4194304
        ·
         refine s_val hS40 rfl rfl (r_cmp_t rfl rfl (.t rfl rfl) .c (show ((q1 : Nat) : Int) > 4194304 from by omega)) ?_
         refine wpList_nil ?_
         refine x_tn ?_
         refine k_t (.t rfl rfl) ?_
         refine wp_seq ?_
         refine k_reg ?_
         refine s_storeB (m := 1) rfl rfl rfl one43 (.t rfl rfl) .c rfl hS40 rfl rfl (c' := #[.pointer none]) rfl (h' := (fl [(pk d m D), [(blk1, .cells #[.pointer none] 43 (0, 0))], (bk blk2 30 (.slice none 0 0)), (bk blk3 37 (.int .i64 (((eR : Nat) : Int)))), (lk blk4 d s 8 0 false), sm, sg1])) rfl fun w29 hS41 hB16 => ?_
         refine s_storeB (m := 2) rfl rfl rfl one30 (.t rfl rfl) .c rfl hS41 rfl rfl (c' := #[.slice none 0 0]) rfl (h' := (fl [(pk d m D), [(blk1, .cells #[.pointer none] 43 (0, 0))], (bk blk2 30 (.slice none 0 0)), (bk blk3 37 (.int .i64 (((eR : Nat) : Int)))), (lk blk4 d s 8 0 false), sm, sg1])) rfl fun w30 hS42 hB17 => ?_
         refine s_storeB (m := 3) rfl rfl rfl one37 (.t rfl rfl) .c rfl hS42 rfl rfl (c' := #[.int .i64 111]) rfl (h' := (fl [(pk d m D), [(blk1, .cells #[.pointer none] 43 (0, 0))], (bk blk2 30 (.slice none 0 0)), (bk blk3 37 (.int .i64 111)), (lk blk4 d s 8 0 false), sm, sg1])) rfl fun w31 hS43 hB18 => ?_
         refine wpList_nil ?_
         refine x_tn ?_
         refine wp_ret ?_
         refine x_tr ?_
         refine j_r ?_
         refine l_defer cb46 (Open1_ok w31 _ 111 _ _ _ _ _ (hS43.give (xs := [(bk blk3 37 (.int .i64 111)), [(blk1, .cells #[.pointer none] 43 (0, 0))], (bk blk2 30 (.slice none 0 0))]) [3, 1, 2] rfl (by decide))) ?_
         rintro _ w32 ⟨lv4, ov4, hz4, hnz4, ht10⟩
         have hS44 : St w0 K (fl [(pk d m D), [(blk1, .cells #[lv4] 43 (0, 0))], [(blk2, .cells #[ov4] 30 (0, 0))], (bk blk3 37 (.int .i64 111)), (lk blk4 d s 8 0 false), sm, sg1]) w32 := hS43.callL (xs := [(bk blk3 37 (.int .i64 111)), [(blk1, .cells #[.pointer none] 43 (0, 0))], (bk blk2 30 (.slice none 0 0))]) (xs' := [(bk blk3 37 (.int .i64 111)), [(blk1, .cells #[lv4] 43 (0, 0))], [(blk2, .cells #[ov4] 30 (0, 0))]]) (zs := []) [3, 1, 2] rfl (by decide) ht10 rfl rfl
         refine ⟨_, tells_cells3 Try.results19 rfl rfl rfl rfl rfl rfl one43 one30 one37 (St.cell_own (m := 1) rfl rfl _ hS44) (St.cell_own (m := 2) rfl rfl _ hS44) (St.cell_own (m := 3) rfl rfl _ hS44), ?_⟩
         refine ⟨_, rfl, ?_⟩
         have hS45 : St w0 K (fl [(pk d m D), sm]) w32 := hS44.pick [0, 5] rfl (by decide)
         have hne : 111 ≠ 0 := by omega
         exact ⟨111, D, sm, [], ⟨0, 0, false⟩, OpnS.bad hrd heR hBR hgd (bad_a hq2 h8 h4m), ok, by omega, by omega, hM, .inl ⟨hne, by obtain ⟨q1, q2⟩ := hnz4 hne; subst q1; subst q2; rfl, hS45⟩⟩
        ·
         refine s_val hS40 rfl rfl (r_cmp_f rfl rfl (.t rfl rfl) .c (show ¬ (((q1 : Nat) : Int) > 4194304) from by omega)) ?_
         refine wpList_nil ?_
         refine x_tn ?_
         refine k_f (.t rfl rfl) ?_
         refine wp_skip ?_
         refine x_tn ?_
         refine wp_seq ?_
         refine wp_seq ?_
         refine k_reg ?_
         refine s_val hS40 rfl rfl (r_move rfl (.t rfl rfl)) ?_
         refine s_val hS40 rfl rfl (r_move rfl (.t rfl rfl)) ?_
         refine s_val hS40 rfl rfl (r_len rfl rfl Try.underlying22 (.t rfl rfl)) ?_
         refine s_val hS40 rfl rfl (r_arith rfl rfl (.t rfl rfl) .c (c := ((((B.drop 8).length) - 8 : Nat) : Int)) (wn_i64 (by show ((((B.drop 8).length : Nat) : Int) : Int) - 8 = _; omega) (by omega))) ?_
         by_cases hnq : q1 > ((B.drop 8).length) - 8
         ·
          refine s_val hS40 rfl rfl (r_cmp_t rfl rfl (.t rfl rfl) (.t rfl rfl) (show ((q1 : Nat) : Int) > ((((B.drop 8).length) - 8 : Nat) : Int) from by omega)) ?_
          refine wpList_nil ?_
          refine x_tn ?_
          refine k_t (.t rfl rfl) ?_
          refine wp_goto ?_
          refine x_tg ?_
          refine j_g ?_
          have hS46 : St w0 K (fl [(pk d m D), (bk blk1 43 (.pointer (some ⟨blk4, 0, none⟩))), (bk blk2 30 (.slice none 0 0)), (bk blk3 37 (.int .i64 (((eR : Nat) : Int)))), (lk blk4 d s 8 0 false), sm, sg1, []]) w28 := St.re hS40 (by simp)
          refine ⟨0, (.inr (⟨rfl, _, [], (B.drop 8), 0, 8, eR, blk4, (cutA ra1 8 rc1), (rc1 - 8), none, 0, sg1, [], fr_reb _ ⟨rfl, rfl, rfl, rfl, rfl, trivial⟩, hS46, ?_⟩))⟩
          exact ⟨rfl, torn_b hq2 h8 h4m hnq, by first | rfl | assumption | (simp; done) | (rw [List.length_append]; simp only [List.length_cons, List.length_nil]; omega), by first | rfl | assumption | omega, by omega, heR, hBR, hgd, hx1, GrP.nil⟩
         ·
          refine s_val hS40 rfl rfl (r_cmp_f rfl rfl (.t rfl rfl) (.t rfl rfl) (show ¬ (((q1 : Nat) : Int) > ((((B.drop 8).length) - 8 : Nat) : Int)) from by omega)) ?_
          refine wpList_nil ?_
          refine x_tn ?_
          refine k_f (.t rfl rfl) ?_
          refine wp_skip ?_
          refine x_tn ?_
          refine wp_seq ?_
          refine wp_seq ?_
          refine k_join (fun a_ w_ => ∃ (G : Nat → Value) (b_ : Bool) (qs1 : Nat), a_ = fr 119 [(0, .pointer (some ⟨d, 0, none⟩)), (1, .string s), (4, .pointer (some ⟨blk1, 0, none⟩)), (5, .pointer (some ⟨blk2, 0, none⟩)), (6, .pointer (some ⟨blk3, 0, none⟩)), (7, .slice (cutA ra1 8 rc1) ((B.drop 8).length) (rc1 - 8)), (8, .int .i64 (((q1 : Nat) : Int))), (11, .func (.func 46) #[] #[.pointer (some ⟨blk3, 0, none⟩), .pointer (some ⟨blk1, 0, none⟩), .pointer (some ⟨blk2, 0, none⟩)]), (12, .tuple #[.slice ra1 B.length rc1, .int .i64 (((eR : Nat) : Int))]), (13, .pointer (some ⟨d, 0, none⟩)), (14, .string s), (15, .tuple #[.slice ra1 B.length rc1, .int .i64 (((eR : Nat) : Int))]), (16, .slice ra1 B.length rc1), (17, .int .i64 (((eR : Nat) : Int))), (23, .bool false), (25, .pointer (some ⟨d, 0, none⟩)), (26, .string s), (27, .agg #[.pointer (some ⟨d, 0, none⟩), .string s, .int .i64 8, .int .i64 0, .bool false]), (28, .pointer (some ⟨blk4, 0, none⟩)), (29, .slice ra1 B.length rc1), (30, .int .i64 (((B.length : Nat) : Int))), (31, .bool false), (32, .bool false), (33, undef), (34, undef), (35, undef), (36, .bool false), (41, .slice ra1 B.length rc1), (42, .string (strB B)), (43, .bool true), (44, .bool false), (45, .slice ra1 B.length rc1), (46, .slice (cutA ra1 8 rc1) ((B.drop 8).length) (rc1 - 8)), (47, .slice (cutA ra1 8 rc1) ((B.drop 8).length) (rc1 - 8)), (48, .int .i64 ((((B.drop 8).length : Nat) : Int))), (49, .bool false), (52, .slice (cutA ra1 8 rc1) ((B.drop 8).length) (rc1 - 8)), (53, .int .i64 ((((B.drop 8).length : Nat) : Int))), (54, .bool false), (55, .slice (cutA ra1 8 rc1) ((B.drop 8).length) (rc1 - 8)), (56, .int .u32 (((q1 : Nat) : Int))), (57, .int .i64 (((q1 : Nat) : Int))), (58, .int .i64 (((q1 : Nat) : Int))), (59, .bool false), (60, .int .i64 (((q1 : Nat) : Int))), (61, .slice (cutA ra1 8 rc1) ((B.drop 8).length) (rc1 - 8)), (62, .int .i64 ((((B.drop 8).length : Nat) : Int))), (63, .int .i64 (((((B.drop 8).length) - 8 : Nat) : Int))), (64, .bool false), (76, .bool b_)] G [⟨.fn (.func 46) #[.pointer (some ⟨blk3, 0, none⟩), .pointer (some ⟨blk1, 0, none⟩), .pointer (some ⟨blk2, 0, none⟩)], #[]⟩] ∧ St w0 K (fl [(pk d m D), (bk blk1 43 (.pointer (some ⟨blk4, 0, none⟩))), (bk blk2 30 (.slice none 0 0)), (bk blk3 37 (.int .i64 (((eR : Nat) : Int)))), (lk blk4 d s 8 0 false), sm, sg1]) w_ ∧ (NumIs qs1 ((B.drop 8).drop 4) ∧ (b_ = true → ¬ crcM (crcM 0 ((B.drop 8).take 4)) (((B.drop 8).take (8 + q1)).drop 8) = qs1) ∧ (b_ = false → crcM (crcM 0 ((B.drop 8).take 4)) (((B.drop 8).take (8 + q1)).drop 8) = qs1))) ?_ ?_
          ·
           refine k_only ?_
           refine h_start (C := fun x => Has x (fl [sg1])) mixed hS40 (L := [false, false, false, false, false, false, false, false, false, false, false, false]) rfl fun w34 hS47 => ?_
           have hH10 : Has w34 (fl [sg1]) := (Has.cons_ (hS47.has (i := 6) rfl) Has.nil_)
           refine h_take (i := 0) NoP.only rfl rfl rfl (by kernel_rfl) (L' := [true, false, false, false, false, false, false, false, false, false, false, false]) rfl (r_move rfl (.t rfl rfl)) hH10 ?_
           have hq3 := (hx1).le
           have hx2 : Sl .u8 (cutA ra1 8 rc1) (rc1 - 8) (((B.drop 8)).take 4) sg1 := hx1.take_ (by omega) (by omega) (by omega)
           have hn2 : (((B.drop 8)).take 4).length = 4 := by rw [List.length_take]; omega
           refine h_take (i := 1) NoP.only rfl rfl rfl (by kernel_rfl) (L' := [true, true, false, false, false, false, false, false, false, false, false, false]) rfl (Rn.asSl (ad' := (cutA ra1 8 rc1)) (p' := (((B.drop 8)).take 4).length) (q' := rc1 - 8) (by simp [cutA]) (by omega) (by omega) (r_cutl rfl Try.underlying22 ti5 (.t rfl rfl) hx1 rfl .n (.s .c) .n (lw := 0) (hh := 4) (m := rc1 - 8) (by omega) (by omega) (by omega) (by omega))) hH10 ?_
           refine h_take (i := 3) NoP.only rfl rfl rfl (by kernel_rfl) (L' := [true, true, false, true, false, false, false, false, false, false, false, false]) rfl (r_move rfl (.t rfl rfl)) hH10 ?_
           refine h_take (i := 4) NoP.only rfl rfl rfl (by kernel_rfl) (L' := [true, true, false, true, true, false, false, false, false, false, false, false]) rfl (r_move rfl (.t rfl rfl)) hH10 ?_
           refine h_take (i := 5) NoP.only rfl rfl rfl (by kernel_rfl) (L' := [true, true, false, true, true, true, false, false, false, false, false, false]) rfl (r_arith rfl rfl .c (.t rfl rfl) (c := ((8 + q1 : Nat) : Int)) (wn_i64 (by show (8 : Int) + ((q1 : Nat) : Int) = _; omega) (by omega))) hH10 ?_
           have hq4 := (hx1).le
           have hx3 : Sl .u8 (cutA (cutA ra1 8 rc1) 8 (rc1 - 8)) (rc1 - 8 - 8) ((((B.drop 8)).take (8 + q1)).drop 8) sg1 := hx1.cut (by omega) (by omega) (by omega) (by omega)
           have hn3 : ((((B.drop 8)).take (8 + q1)).drop 8).length = 8 + q1 - 8 := by simp only [List.length_drop, List.length_take] <;> omega
           refine h_take (i := 6) NoP.only rfl rfl rfl (by kernel_rfl) (L' := [true, true, false, true, true, true, true, false, false, false, false, false]) rfl (Rn.asSl (p' := ((((B.drop 8)).take (8 + q1)).drop 8).length) rfl (by omega) rfl (r_cutl rfl Try.underlying22 ti5 (.t rfl rfl) hx1 rfl (.s .c) (.s (.t rfl rfl)) .n (lw := 8) (hh := 8 + q1) (m := rc1 - 8) (by omega) (by omega) (by omega) (by omega))) hH10 ?_
           refine h_take (i := 8) NoP.only rfl rfl rfl (by kernel_rfl) (L' := [true, true, false, true, true, true, true, false, true, false, false, false]) rfl (r_move rfl (.t rfl rfl)) hH10 ?_
           have hq5 := (hx1).le
           have hx4 : Sl .u8 (cutA (cutA ra1 8 rc1) 4 (rc1 - 8)) (rc1 - 8 - 4) (((B.drop 8)).drop 4) sg1 := hx1.drop_ (by omega)
           have hn4 : (((B.drop 8)).drop 4).length = (B.drop 8).length - 4 := by simp only [List.length_drop, List.length_take] <;> omega
           refine h_take (i := 9) NoP.only rfl rfl rfl (by kernel_rfl) (L' := [true, true, false, true, true, true, true, false, true, true, false, false]) rfl (Rn.asSl (p' := (((B.drop 8)).drop 4).length) rfl (by omega) rfl (r_cutl rfl Try.underlying22 ti5 (.t rfl rfl) hx1 rfl (.s .c) .n .n (lw := 4) (hh := (B.drop 8).length) (m := rc1 - 8) (by omega) (by omega) (by omega) (by omega))) hH10 ?_
           refine h_all (rs := [2]) (by kernel_rfl) (by simp) ?_
           refine List.forall_mem_cons.2 ⟨h_op rfl (wanted_none rfl) ?_, by simp⟩
           refine s_call rfl rfl rfl (vs := [.slice (cutA ra1 8 rc1) ((((B.drop 8)).take 4).length) (rc1 - 8)]) ⟨(.t rfl rfl), trivial⟩ cb11 (Sum_ok w34 (cutA ra1 8 rc1) (rc1 - 8) (((B.drop 8)).take 4) sg1 hx2 (Old.of_piece (i := 6) (xs := []) [] hS47 rfl rfl (by decide)) ) ?_
           rintro _ w35 ⟨rfl, ht11⟩
           have hS48 : St w0 K (fl [(pk d m D), (bk blk1 43 (.pointer (some ⟨blk4, 0, none⟩))), (bk blk2 30 (.slice none 0 0)), (bk blk3 37 (.int .i64 (((eR : Nat) : Int)))), (lk blk4 d s 8 0 false), sm, sg1]) w35 := hS47.callL (xs := []) (xs' := []) (zs := []) [] rfl (by decide) ht11 rfl rfl
           refine wpList_nil ?_
           refine x_tn ?_
           have hH11 : Has w35 (fl [sg1]) := (Has.cons_ (hS48.has (i := 6) rfl) Has.nil_)
           refine ⟨hH11, ?_⟩
           refine h_all (rs := [7]) (by kernel_rfl) (by simp) ?_
           refine List.forall_mem_cons.2 ⟨h_op rfl (wanted_none rfl) ?_, by simp⟩
           refine s_call rfl rfl rfl (vs := [.int .u32 (((crcM 0 ((((B.drop 8)).take 4)) : Nat) : Int)), .slice (cutA (cutA ra1 8 rc1) 8 (rc1 - 8)) (((((B.drop 8)).take (8 + q1)).drop 8).length) (rc1 - 8 - 8)]) ⟨(.t rfl rfl), (.t rfl rfl), trivial⟩ cb41 (more_ok w35 (crcM 0 ((((B.drop 8)).take 4))) (by first | omega | exact Nat.le_of_lt_succ crcM_lt) (cutA (cutA ra1 8 rc1) 8 (rc1 - 8)) (rc1 - 8 - 8) ((((B.drop 8)).take (8 + q1)).drop 8) sg1 hx3 (Old.of_piece (i := 6) (xs := []) [] hS48 rfl rfl (by decide)) ) ?_
           rintro _ w36 ⟨rfl, ht12⟩
           have hS49 : St w0 K (fl [(pk d m D), (bk blk1 43 (.pointer (some ⟨blk4, 0, none⟩))), (bk blk2 30 (.slice none 0 0)), (bk blk3 37 (.int .i64 (((eR : Nat) : Int)))), (lk blk4 d s 8 0 false), sm, sg1]) w36 := hS48.callL (xs := []) (xs' := []) (zs := []) [] rfl (by decide) ht12 rfl rfl
           refine wpList_nil ?_
           refine x_tn ?_
           have hH12 : Has w36 (fl [sg1]) := (Has.cons_ (hS49.has (i := 6) rfl) Has.nil_)
           refine ⟨hH12, ?_⟩
           refine h_all (rs := [10]) (by kernel_rfl) (by simp) ?_
           refine List.forall_mem_cons.2 ⟨h_op rfl (wanted_none rfl) ?_, by simp⟩
           refine s_call rfl rfl rfl (vs := [.slice (cutA (cutA ra1 8 rc1) 4 (rc1 - 8)) ((((B.drop 8)).drop 4).length) (rc1 - 8 - 4)]) ⟨(.t rfl rfl), trivial⟩ cb49 (number_ok w36 (cutA (cutA ra1 8 rc1) 4 (rc1 - 8)) (rc1 - 8 - 4) (((B.drop 8)).drop 4) sg1 hx4 (Old.of_piece (i := 6) (xs := []) [] hS49 rfl rfl (by decide)) (by omega) ) ?_
           rintro _ w37 ⟨q2, hq6, hql2, rfl, ht13⟩
           have hS50 : St w0 K (fl [(pk d m D), (bk blk1 43 (.pointer (some ⟨blk4, 0, none⟩))), (bk blk2 30 (.slice none 0 0)), (bk blk3 37 (.int .i64 (((eR : Nat) : Int)))), (lk blk4 d s 8 0 false), sm, sg1]) w37 := hS49.callL (xs := []) (xs' := []) (zs := []) [] rfl (by decide) ht13 rfl rfl
           refine wpList_nil ?_
           refine x_tn ?_
           have hH13 : Has w37 (fl [sg1]) := (Has.cons_ (hS50.has (i := 6) rfl) Has.nil_)
           refine ⟨hH13, ?_⟩
           by_cases hcs : crcM (crcM 0 ((((B.drop 8)).take 4))) (((((B.drop 8)).take (8 + q1)).drop 8)) ≠ q2
           ·
            refine h_take (i := 11) NoP.only rfl rfl rfl (by kernel_rfl) (L' := [true, true, true, true, true, true, true, true, true, true, true, true]) rfl (r_cmp_t rfl rfl (.t rfl rfl) (.t rfl rfl) (show ¬ ((crcM (crcM 0 ((((B.drop 8)).take 4))) (((((B.drop 8)).take (8 + q1)).drop 8)) : Nat) : Int) = ((q2 : Nat) : Int) from by omega)) hH13 ?_
            refine h_done (by kernel_rfl) ?_
            refine only_n ?_
            refine x_tn ?_
            refine ⟨_, true, q2, fr_reb _ ⟨rfl, rfl, rfl, rfl, rfl, rfl, rfl, rfl, rfl, rfl, rfl, rfl, rfl, rfl, rfl, rfl, rfl, rfl, rfl, rfl, rfl, rfl, rfl, rfl, rfl, rfl, rfl, rfl, rfl, rfl, rfl, rfl, rfl, rfl, rfl, rfl, rfl, rfl, rfl, rfl, rfl, rfl, rfl, rfl, rfl, rfl, rfl, rfl, rfl, rfl, trivial⟩, hS50, ?_⟩
            exact ⟨hq6, fun h => hcs, fun h => (nomatch h)⟩
           ·
            refine h_take (i := 11) NoP.only rfl rfl rfl (by kernel_rfl) (L' := [true, true, true, true, true, true, true, true, true, true, true, true]) rfl (r_cmp_f rfl rfl (.t rfl rfl) (.t rfl rfl) (show ¬ (¬ ((crcM (crcM 0 ((((B.drop 8)).take 4))) (((((B.drop 8)).take (8 + q1)).drop 8)) : Nat) : Int) = ((q2 : Nat) : Int)) from by omega)) hH13 ?_
            refine h_done (by kernel_rfl) ?_
            refine only_n ?_
            refine x_tn ?_
            refine ⟨_, false, q2, fr_reb _ ⟨rfl, rfl, rfl, rfl, rfl, rfl, rfl, rfl, rfl, rfl, rfl, rfl, rfl, rfl, rfl, rfl, rfl, rfl, rfl, rfl, rfl, rfl, rfl, rfl, rfl, rfl, rfl, rfl, rfl, rfl, rfl, rfl, rfl, rfl, rfl, rfl, rfl, rfl, rfl, rfl, rfl, rfl, rfl, rfl, rfl, rfl, rfl, rfl, rfl, rfl, trivial⟩, hS50, ?_⟩
            exact ⟨hq6, fun h => (nomatch h), fun h => Decidable.not_not.1 hcs⟩
          ·
           rintro _ w33 ⟨G4, b_, qs1, rfl, hS51, ⟨hqs1, hcT, hcF⟩⟩
           cases b_
           ·
            have hcs := hcF rfl
            refine x_tn ?_
            refine k_f (.t rfl rfl) ?_
            refine wp_skip ?_
            refine x_tn ?_
            refine wp_seq ?_
            refine wp_seq ?_
            refine k_reg ?_
            refine s_val hS51 rfl rfl (r_move rfl (.t rfl rfl)) ?_
            refine s_val hS51 rfl rfl (r_move rfl (.t rfl rfl)) ?_
            refine s_val hS51 rfl rfl (r_arith rfl rfl .c (.t rfl rfl) (c := ((8 + q1 : Nat) : Int)) (wn_i64 (by show (8 : Int) + ((q1 : Nat) : Int) = _; omega) (by omega))) ?_
            have hq7 := (hx1).le
            have hx5 : Sl .u8 (cutA (cutA ra1 8 rc1) 8 (rc1 - 8)) (rc1 - 8 - 8) ((((B.drop 8)).take (8 + q1)).drop 8) sg1 := hx1.cut (by omega) (by omega) (by omega) (by omega)
            have hn5 : ((((B.drop 8)).take (8 + q1)).drop 8).length = 8 + q1 - 8 := by simp only [List.length_drop, List.length_take] <;> omega
            refine s_val hS51 rfl rfl (Rn.asSl (p' := ((((B.drop 8)).take (8 + q1)).drop 8).length) rfl (by omega) rfl (r_cutl rfl Try.underlying22 ti5 (.t rfl rfl) hx1 rfl (.s .c) (.s (.t rfl rfl)) .n (lw := 8) (hh := 8 + q1) (m := rc1 - 8) (by omega) (by omega) (by omega) (by omega))) ?_
            refine s_call rfl rfl rfl (vs := [.slice (cutA (cutA ra1 8 rc1) 8 (rc1 - 8)) (((((B.drop 8)).take (8 + q1)).drop 8).length) (rc1 - 8 - 8)]) ⟨(.t rfl rfl), trivial⟩ cb50 (rows_ok w33 (cutA (cutA ra1 8 rc1) 8 (rc1 - 8)) (rc1 - 8 - 8) ((((B.drop 8)).take (8 + q1)).drop 8) sg1 hx5 (Old.of_piece (i := 6) (xs := []) [] hS51 rfl rfl (by decide)) (by omega)) ?_
            rintro _ w38 (⟨LL1, ga1, gc1, sg2, hLL1, rfl, hG2, ht14⟩ | ⟨hLL1, rfl, ht14⟩)
            ·
             have hS52 : St w0 K (fl [(pk d m D), (bk blk1 43 (.pointer (some ⟨blk4, 0, none⟩))), (bk blk2 30 (.slice none 0 0)), (bk blk3 37 (.int .i64 (((eR : Nat) : Int)))), (lk blk4 d s 8 0 false), sm, sg1, sg2]) w38 := hS51.callL (xs := []) (xs' := []) (zs := [sg2]) [] rfl (by decide) ht14 rfl rfl
             refine s_val hS52 rfl rfl (r_move rfl (.t rfl rfl)) ?_
             refine s_val hS52 rfl rfl (r_extract rfl (.t rfl rfl) rfl) ?_
             refine s_val hS52 rfl rfl (r_extract rfl (.t rfl rfl) rfl) ?_
             by_cases hmr : LL1.length ≤ 4096
             ·
              refine s_asb (b' := true) (decide_eq_true hmr) ?_
              refine s_val hS52 rfl rfl (r_assign rfl (.t rfl rfl)) ?_
              refine s_val hS52 rfl rfl (r_assign rfl (.t rfl rfl)) ?_
              refine wpList_nil ?_
              refine x_tn ?_
              refine wp_seq ?_
              refine k_reg ?_
              refine s_val hS52 rfl rfl (r_move rfl (.t rfl rfl)) ?_
              refine wpList_nil ?_
              refine x_tn ?_
              refine k_t (.t rfl rfl) ?_
              refine wp_seq ?_
              refine k_reg ?_
              refine s_val hS52 rfl rfl (r_load rfl one30 (.t rfl rfl) (St.cell_own (m := 2) rfl rfl)) ?_
              refine s_val hS52 rfl rfl (r_move rfl (.t rfl rfl)) ?_
              refine s_litV rfl rfl rfl Try.underlying30 ti56 rfl (vs := [(0, .slice ga1 LL1.length gc1)]) ⟨rfl, (.t rfl rfl), trivial⟩ (L := [.slice ga1 LL1.length gc1]) rfl (by decide) rfl hS52 fun blk5 w39 hb5 hB19 hS53 => ?_
              have hS54 : St w0 K (fl [(pk d m D), (bk blk1 43 (.pointer (some ⟨blk4, 0, none⟩))), (bk blk2 30 (.slice none 0 0)), (bk blk3 37 (.int .i64 (((eR : Nat) : Int)))), (lk blk4 d s 8 0 false), (bk blk5 56 (.slice ga1 LL1.length gc1)), sm, sg1, sg2]) w39 := hS53.push 5 rfl
              have hS55 : St w0 K (fl [(pk d m D), (bk blk1 43 (.pointer (some ⟨blk4, 0, none⟩))), (bk blk2 30 (.slice none 0 0)), (bk blk3 37 (.int .i64 (((eR : Nat) : Int)))), (lk blk4 d s 8 0 false), (bk blk5 56 (.slice ga1 LL1.length gc1)), sm, sg1, sg2, []]) w39 := St.re hS54 (by simp)
              obtain ⟨vs1, hg1, hr1, gA1, gB1, gC1, hS56⟩ := GrP.open_ (i := 9) (GrP.nil (R := R2) (T := 56)) hS55 rfl
              have hS57 : St w0 K (fl [(pk d m D), (bk blk1 43 (.pointer (some ⟨blk4, 0, none⟩))), (bk blk2 30 (.slice none 0 0)), (bk blk3 37 (.int .i64 (((eR : Nat) : Int)))), (lk blk4 d s 8 0 false), (bk blk5 56 (.slice ga1 LL1.length gc1)), sm, sg1, sg2, hg1, hr1]) w39 := hS56
              refine s_appendV (i := 9) (L := vs1) (A := [.slice ga1 LL1.length gc1]) rfl rfl rfl rfl ⟨_, _, rfl, Try.underlying30⟩ Try.underlying30 ti56 (by omega) (by omega) rfl (by simp [oneC]) (.t rfl rfl) (.t rfl rfl) rfl (by first | exact gC1 | (rw [gC1]; first | rfl | assumption | omega | (simp; done))) gA1 hS57 rfl (SlV.lit (by simp) (by simp)) (hS57.has (i := 5) rfl) (by rw [gC1]; first | (simp; done) | (simp only [List.length_cons, List.length_nil]; omega)) fun ga2 gc2 hg2 w40 hG3 hS58 => ?_
              have hS59 : St w0 K (fl [(pk d m D), (bk blk1 43 (.pointer (some ⟨blk4, 0, none⟩))), (bk blk2 30 (.slice none 0 0)), (bk blk3 37 (.int .i64 (((eR : Nat) : Int)))), (lk blk4 d s 8 0 false), (bk blk5 56 (.slice ga1 LL1.length gc1)), sm, sg1, sg2, hg2, hr1]) w40 := hS58
              obtain ⟨sg3, hG4, hS60⟩ : ∃ sg3 : Hp, GrP R2 56 ga2 gc2 (([]) ++ [LL1]) sg3 ∧ St w0 K (fl [(pk d m D), (bk blk1 43 (.pointer (some ⟨blk4, 0, none⟩))), (bk blk2 30 (.slice none 0 0)), (bk blk3 37 (.int .i64 (((eR : Nat) : Int)))), (lk blk4 d s 8 0 false), sm, sg1, sg3]) w40 := ⟨_, GrP.snoc R2.mono hG3 gB1 (R2.of_gr hG2 (by omega)  (by first | rfl | omega | (simp; done) | (simp; omega))), ((hS59.merge (L' := [(pk d m D), (bk blk1 43 (.pointer (some ⟨blk4, 0, none⟩))), (bk blk2 30 (.slice none 0 0)), (bk blk3 37 (.int .i64 (((eR : Nat) : Int)))), (lk blk4 d s 8 0 false), (bk blk5 56 (.slice ga1 LL1.length gc1)), sm, sg1, [], hg2, (hr1 ++ sg2)]) 10 8 rfl rfl rfl rfl).merge (L' := [(pk d m D), (bk blk1 43 (.pointer (some ⟨blk4, 0, none⟩))), (bk blk2 30 (.slice none 0 0)), (bk blk3 37 (.int .i64 (((eR : Nat) : Int)))), (lk blk4 d s 8 0 false), (bk blk5 56 (.slice ga1 LL1.length gc1)), sm, sg1, [], (hg2 ++ (hr1 ++ sg2)), []]) 9 10 rfl rfl rfl rfl).pick [0, 1, 2, 3, 4, 6, 7, 9] rfl (by decide)⟩
              refine s_storeB (m := 2) rfl rfl rfl one30 (.t rfl rfl) (.t rfl rfl) rfl hS60 rfl rfl (c' := #[.slice ga2 (0 + 1) gc2]) rfl (h' := (fl [(pk d m D), (bk blk1 43 (.pointer (some ⟨blk4, 0, none⟩))), (bk blk2 30 (.slice ga2 (0 + 1) gc2)), (bk blk3 37 (.int .i64 (((eR : Nat) : Int)))), (lk blk4 d s 8 0 false), sm, sg1, sg3])) rfl fun w41 hS61 hB20 => ?_
              refine wpList_nil ?_
              refine x_tn ?_
              refine wp_seq ?_
              refine k_reg ?_
              refine s_val hS61 rfl rfl (r_load rfl one43 (.t rfl rfl) (St.cell_own (m := 1) rfl rfl)) ?_
              refine s_val hS61 rfl rfl (r_nilCheck rfl (.t rfl rfl)) ?_
              refine s_val hS61 rfl rfl (r_fieldN rfl Try.underlying92 rfl ti3 (by decide) (.t rfl rfl) (qq := 3) rfl) ?_
              refine s_val hS61 rfl rfl (r_load rfl one3 (.t rfl rfl) (St.cell_own (m := 4) rfl rfl)) ?_
              refine s_val hS61 rfl rfl (r_arith rfl rfl (.t rfl rfl) .c (c := ((1 : Nat) : Int)) (wn_i64 (by show (0 : Int) + 1 = _; omega) (by omega))) ?_
              refine s_val hS61 rfl rfl (r_nilCheck rfl (.t rfl rfl)) ?_
              refine s_val hS61 rfl rfl (r_fieldN rfl Try.underlying92 rfl ti3 (by decide) (.t rfl rfl) (qq := 3) rfl) ?_
              refine s_storeB (m := 4) rfl rfl rfl one3 (.t rfl rfl) (.t rfl rfl) rfl hS61 rfl rfl (c' := #[.pointer (some ⟨d, 0, none⟩), .string s, .int .i64 8, .int .i64 1, .bool false]) rfl (h' := (fl [(pk d m D), (bk blk1 43 (.pointer (some ⟨blk4, 0, none⟩))), (bk blk2 30 (.slice ga2 (0 + 1) gc2)), (bk blk3 37 (.int .i64 (((eR : Nat) : Int)))), (lk blk4 d s 8 1 false), sm, sg1, sg3])) rfl fun w42 hS62 hB21 => ?_
              refine wpList_nil ?_
              refine x_tn ?_
              refine wp_seq ?_
              refine k_reg ?_
              refine s_val hS62 rfl rfl (r_load rfl one43 (.t rfl rfl) (St.cell_own (m := 1) rfl rfl)) ?_
              refine s_val hS62 rfl rfl (r_nilCheck rfl (.t rfl rfl)) ?_
              refine s_val hS62 rfl rfl (r_fieldN rfl Try.underlying92 rfl ti3 (by decide) (.t rfl rfl) (qq := 2) rfl) ?_
              refine s_val hS62 rfl rfl (r_load rfl one3 (.t rfl rfl) (St.cell_own (m := 4) rfl rfl)) ?_
              refine s_val hS62 rfl rfl (r_move rfl (.t rfl rfl)) ?_
              refine s_val hS62 rfl rfl (r_arith rfl rfl .c (.t rfl rfl) (c := ((8 + q1 : Nat) : Int)) (wn_i64 (by show (8 : Int) + ((q1 : Nat) : Int) = _; omega) (by omega))) ?_
              refine s_val hS62 rfl rfl (r_arith rfl rfl (.t rfl rfl) (.t rfl rfl) (c := ((8 + (8 + q1) : Nat) : Int)) (wn_i64 (by show (8 : Int) + ((8 + q1 : Nat) : Int) = _; omega) (by omega))) ?_
              refine s_val hS62 rfl rfl (r_nilCheck rfl (.t rfl rfl)) ?_
              refine s_val hS62 rfl rfl (r_fieldN rfl Try.underlying92 rfl ti3 (by decide) (.t rfl rfl) (qq := 2) rfl) ?_
              refine s_storeB (m := 4) rfl rfl rfl one3 (.t rfl rfl) (.t rfl rfl) rfl hS62 rfl rfl (c' := #[.pointer (some ⟨d, 0, none⟩), .string s, .int .i64 (((8 + (8 + q1) : Nat) : Int)), .int .i64 1, .bool false]) rfl (h' := (fl [(pk d m D), (bk blk1 43 (.pointer (some ⟨blk4, 0, none⟩))), (bk blk2 30 (.slice ga2 (0 + 1) gc2)), (bk blk3 37 (.int .i64 (((eR : Nat) : Int)))), (lk blk4 d s (((8 + (8 + q1) : Nat) : Int)) 1 false), sm, sg1, sg3])) rfl fun w43 hS63 hB22 => ?_
              refine wpList_nil ?_
              refine x_tn ?_
              refine wp_seq ?_
              refine k_reg ?_
              refine s_val hS63 rfl rfl (r_move rfl (.t rfl rfl)) ?_
              refine s_val hS63 rfl rfl (r_move rfl (.t rfl rfl)) ?_
              refine s_val hS63 rfl rfl (r_arith rfl rfl .c (.t rfl rfl) (c := ((8 + q1 : Nat) : Int)) (wn_i64 (by show (8 : Int) + ((q1 : Nat) : Int) = _; omega) (by omega))) ?_
              have hq8 := (hx1).le
              have hx6 : Sl .u8 (cutA (cutA ra1 8 rc1) (8 + q1) (rc1 - 8)) (rc1 - 8 - (8 + q1)) (((B.drop 8)).drop (8 + q1)) sg1 := hx1.drop_ (by omega)
              have hn6 : (((B.drop 8)).drop (8 + q1)).length = (B.drop 8).length - (8 + q1) := by simp only [List.length_drop, List.length_take] <;> omega
              refine s_val hS63 rfl rfl (Rn.asSl (p' := (((B.drop 8)).drop (8 + q1)).length) rfl (by omega) rfl (r_cutl rfl Try.underlying22 ti5 (.t rfl rfl) hx1 rfl (.s (.t rfl rfl)) .n .n (lw := 8 + q1) (hh := (B.drop 8).length) (m := rc1 - 8) (by omega) (by omega) (by omega) (by omega))) ?_
              refine s_val hS63 rfl rfl (r_assign rfl (.t rfl rfl)) ?_
              refine wpList_nil ?_
              refine x_tn ?_
              refine wp_goto ?_
              refine x_tg ?_
              refine j_g ?_
              refine ⟨(((B.drop 8)).drop (8 + q1)).length + 1, (.inl ⟨rfl, _, (([]) ++ [LL1]), (((B.drop 8)).drop (8 + q1)), (0 + 1), (8 + (8 + q1)), eR, blk4, (cutA (cutA ra1 8 rc1) (8 + q1) (rc1 - 8)), (rc1 - 8 - (8 + q1)), ga2, gc2, sg1, sg3, fr_reb _ ⟨rfl, rfl, rfl, rfl, rfl, rfl, trivial⟩, hS63, ?_⟩)⟩
              obtain ⟨hN1, hN2, hN3⟩ := opn_next hBR hgd hfR hq2 hqs1 h8 h4m (by omega) hcs hLL1 hmr
              exact ⟨rfl, by first | rfl | assumption | (simp; done) | (rw [List.length_append]; simp only [List.length_cons, List.length_nil]; omega), by first | rfl | assumption | omega, by omega, heR, hN2, hN3, hx6, hG4⟩
             ·
              refine s_asb (b' := false) (decide_eq_false hmr) ?_
              refine s_val hS52 rfl rfl (r_assign rfl (.t rfl rfl)) ?_
              refine s_val hS52 rfl rfl (r_assign rfl (.t rfl rfl)) ?_
              refine wpList_nil ?_
              refine x_tn ?_
              refine wp_seq ?_
              refine k_reg ?_
              refine s_val hS52 rfl rfl (r_move rfl (.t rfl rfl)) ?_
              refine wpList_nil ?_
              refine x_tn ?_
              refine k_f (.t rfl rfl) ?_
              refine wp_skip ?_
              refine x_tn ?_
              refine wp_seq ?_
              refine wp_seq ?_
              refine k_reg ?_
              refine s_storeB (m := 1) rfl rfl rfl one43 (.t rfl rfl) .c rfl hS52 rfl rfl (c' := #[.pointer none]) rfl (h' := (fl [(pk d m D), [(blk1, .cells #[.pointer none] 43 (0, 0))], (bk blk2 30 (.slice none 0 0)), (bk blk3 37 (.int .i64 (((eR : Nat) : Int)))), (lk blk4 d s 8 0 false), sm, sg1, sg2])) rfl fun w44 hS64 hB23 => ?_
              refine s_storeB (m := 2) rfl rfl rfl one30 (.t rfl rfl) .c rfl hS64 rfl rfl (c' := #[.slice none 0 0]) rfl (h' := (fl [(pk d m D), [(blk1, .cells #[.pointer none] 43 (0, 0))], (bk blk2 30 (.slice none 0 0)), (bk blk3 37 (.int .i64 (((eR : Nat) : Int)))), (lk blk4 d s 8 0 false), sm, sg1, sg2])) rfl fun w45 hS65 hB24 => ?_
              refine s_storeB (m := 3) rfl rfl rfl one37 (.t rfl rfl) .c rfl hS65 rfl rfl (c' := #[.int .i64 111]) rfl (h' := (fl [(pk d m D), [(blk1, .cells #[.pointer none] 43 (0, 0))], (bk blk2 30 (.slice none 0 0)), (bk blk3 37 (.int .i64 111)), (lk blk4 d s 8 0 false), sm, sg1, sg2])) rfl fun w46 hS66 hB25 => ?_
              refine wpList_nil ?_
              refine x_tn ?_
              refine wp_ret ?_
              refine x_tr ?_
              refine j_r ?_
              refine l_defer cb46 (Open1_ok w46 _ 111 _ _ _ _ _ (hS66.give (xs := [(bk blk3 37 (.int .i64 111)), [(blk1, .cells #[.pointer none] 43 (0, 0))], (bk blk2 30 (.slice none 0 0))]) [3, 1, 2] rfl (by decide))) ?_
              rintro _ w47 ⟨lv5, ov5, hz5, hnz5, ht15⟩
              have hS67 : St w0 K (fl [(pk d m D), [(blk1, .cells #[lv5] 43 (0, 0))], [(blk2, .cells #[ov5] 30 (0, 0))], (bk blk3 37 (.int .i64 111)), (lk blk4 d s 8 0 false), sm, sg1, sg2]) w47 := hS66.callL (xs := [(bk blk3 37 (.int .i64 111)), [(blk1, .cells #[.pointer none] 43 (0, 0))], (bk blk2 30 (.slice none 0 0))]) (xs' := [(bk blk3 37 (.int .i64 111)), [(blk1, .cells #[lv5] 43 (0, 0))], [(blk2, .cells #[ov5] 30 (0, 0))]]) (zs := []) [3, 1, 2] rfl (by decide) ht15 rfl rfl
              refine ⟨_, tells_cells3 Try.results19 rfl rfl rfl rfl rfl rfl one43 one30 one37 (St.cell_own (m := 1) rfl rfl _ hS67) (St.cell_own (m := 2) rfl rfl _ hS67) (St.cell_own (m := 3) rfl rfl _ hS67), ?_⟩
              refine ⟨_, rfl, ?_⟩
              have hS68 : St w0 K (fl [(pk d m D), sm]) w47 := hS67.pick [0, 5] rfl (by decide)
              have hne : 111 ≠ 0 := by omega
              exact ⟨111, D, sm, [], ⟨0, 0, false⟩, OpnS.bad hrd heR hBR hgd (bad_d hq2 (by omega) h8 h4m (by omega) hLL1 hmr), ok, by omega, by omega, hM, .inl ⟨hne, by obtain ⟨q1, q2⟩ := hnz5 hne; subst q1; subst q2; rfl, hS68⟩⟩
            ·
             have hS52 : St w0 K (fl [(pk d m D), (bk blk1 43 (.pointer (some ⟨blk4, 0, none⟩))), (bk blk2 30 (.slice none 0 0)), (bk blk3 37 (.int .i64 (((eR : Nat) : Int)))), (lk blk4 d s 8 0 false), sm, sg1]) w38 := hS51.callL (xs := []) (xs' := []) (zs := []) [] rfl (by decide) ht14 rfl rfl
             refine s_val hS52 rfl rfl (r_move rfl (.t rfl rfl)) ?_
             refine s_val hS52 rfl rfl (r_extract rfl (.t rfl rfl) rfl) ?_
             refine s_val hS52 rfl rfl (r_extract rfl (.t rfl rfl) rfl) ?_
             refine s_val hS52 rfl rfl (r_assign rfl (.t rfl rfl)) ?_
             refine s_val hS52 rfl rfl (r_assign rfl (.t rfl rfl)) ?_
             refine wpList_nil ?_
             refine x_tn ?_
             refine wp_seq ?_
             refine k_reg ?_
             refine s_val hS52 rfl rfl (r_move rfl (.t rfl rfl)) ?_
             refine wpList_nil ?_
             refine x_tn ?_
             refine k_f (.t rfl rfl) ?_
             refine wp_skip ?_
             refine x_tn ?_
             refine wp_seq ?_
             refine wp_seq ?_
             refine k_reg ?_
             refine s_storeB (m := 1) rfl rfl rfl one43 (.t rfl rfl) .c rfl hS52 rfl rfl (c' := #[.pointer none]) rfl (h' := (fl [(pk d m D), [(blk1, .cells #[.pointer none] 43 (0, 0))], (bk blk2 30 (.slice none 0 0)), (bk blk3 37 (.int .i64 (((eR : Nat) : Int)))), (lk blk4 d s 8 0 false), sm, sg1])) rfl fun w48 hS69 hB26 => ?_
             refine s_storeB (m := 2) rfl rfl rfl one30 (.t rfl rfl) .c rfl hS69 rfl rfl (c' := #[.slice none 0 0]) rfl (h' := (fl [(pk d m D), [(blk1, .cells #[.pointer none] 43 (0, 0))], (bk blk2 30 (.slice none 0 0)), (bk blk3 37 (.int .i64 (((eR : Nat) : Int)))), (lk blk4 d s 8 0 false), sm, sg1])) rfl fun w49 hS70 hB27 => ?_
             refine s_storeB (m := 3) rfl rfl rfl one37 (.t rfl rfl) .c rfl hS70 rfl rfl (c' := #[.int .i64 111]) rfl (h' := (fl [(pk d m D), [(blk1, .cells #[.pointer none] 43 (0, 0))], (bk blk2 30 (.slice none 0 0)), (bk blk3 37 (.int .i64 111)), (lk blk4 d s 8 0 false), sm, sg1])) rfl fun w50 hS71 hB28 => ?_
             refine wpList_nil ?_
             refine x_tn ?_
             refine wp_ret ?_
             refine x_tr ?_
             refine j_r ?_
             refine l_defer cb46 (Open1_ok w50 _ 111 _ _ _ _ _ (hS71.give (xs := [(bk blk3 37 (.int .i64 111)), [(blk1, .cells #[.pointer none] 43 (0, 0))], (bk blk2 30 (.slice none 0 0))]) [3, 1, 2] rfl (by decide))) ?_
             rintro _ w51 ⟨lv6, ov6, hz6, hnz6, ht16⟩
             have hS72 : St w0 K (fl [(pk d m D), [(blk1, .cells #[lv6] 43 (0, 0))], [(blk2, .cells #[ov6] 30 (0, 0))], (bk blk3 37 (.int .i64 111)), (lk blk4 d s 8 0 false), sm, sg1]) w51 := hS71.callL (xs := [(bk blk3 37 (.int .i64 111)), [(blk1, .cells #[.pointer none] 43 (0, 0))], (bk blk2 30 (.slice none 0 0))]) (xs' := [(bk blk3 37 (.int .i64 111)), [(blk1, .cells #[lv6] 43 (0, 0))], [(blk2, .cells #[ov6] 30 (0, 0))]]) (zs := []) [3, 1, 2] rfl (by decide) ht16 rfl rfl
             refine ⟨_, tells_cells3 Try.results19 rfl rfl rfl rfl rfl rfl one43 one30 one37 (St.cell_own (m := 1) rfl rfl _ hS72) (St.cell_own (m := 2) rfl rfl _ hS72) (St.cell_own (m := 3) rfl rfl _ hS72), ?_⟩
             refine ⟨_, rfl, ?_⟩
             have hS73 : St w0 K (fl [(pk d m D), sm]) w51 := hS72.pick [0, 5] rfl (by decide)
             have hne : 111 ≠ 0 := by omega
             exact ⟨111, D, sm, [], ⟨0, 0, false⟩, OpnS.bad hrd heR hBR hgd (bad_c hq2 h8 h4m (by omega) hLL1), ok, by omega, by omega, hM, .inl ⟨hne, by obtain ⟨q1, q2⟩ := hnz6 hne; subst q1; subst q2; rfl, hS73⟩⟩
           ·
            have hcs := hcT rfl
            refine x_tn ?_
            refine k_t (.t rfl rfl) ?_
            refine wp_seq ?_
            refine k_reg ?_
            refine s_storeB (m := 1) rfl rfl rfl one43 (.t rfl rfl) .c rfl hS51 rfl rfl (c' := #[.pointer none]) rfl (h' := (fl [(pk d m D), [(blk1, .cells #[.pointer none] 43 (0, 0))], (bk blk2 30 (.slice none 0 0)), (bk blk3 37 (.int .i64 (((eR : Nat) : Int)))), (lk blk4 d s 8 0 false), sm, sg1])) rfl fun w52 hS74 hB29 => ?_
            refine s_storeB (m := 2) rfl rfl rfl one30 (.t rfl rfl) .c rfl hS74 rfl rfl (c' := #[.slice none 0 0]) rfl (h' := (fl [(pk d m D), [(blk1, .cells #[.pointer none] 43 (0, 0))], (bk blk2 30 (.slice none 0 0)), (bk blk3 37 (.int .i64 (((eR : Nat) : Int)))), (lk blk4 d s 8 0 false), sm, sg1])) rfl fun w53 hS75 hB30 => ?_
            refine s_storeB (m := 3) rfl rfl rfl one37 (.t rfl rfl) .c rfl hS75 rfl rfl (c' := #[.int .i64 111]) rfl (h' := (fl [(pk d m D), [(blk1, .cells #[.pointer none] 43 (0, 0))], (bk blk2 30 (.slice none 0 0)), (bk blk3 37 (.int .i64 111)), (lk blk4 d s 8 0 false), sm, sg1])) rfl fun w54 hS76 hB31 => ?_
            refine wpList_nil ?_
            refine x_tn ?_
            refine wp_ret ?_
            refine x_tr ?_
            refine j_r ?_
            refine l_defer cb46 (Open1_ok w54 _ 111 _ _ _ _ _ (hS76.give (xs := [(bk blk3 37 (.int .i64 111)), [(blk1, .cells #[.pointer none] 43 (0, 0))], (bk blk2 30 (.slice none 0 0))]) [3, 1, 2] rfl (by decide))) ?_
            rintro _ w55 ⟨lv7, ov7, hz7, hnz7, ht17⟩
            have hS77 : St w0 K (fl [(pk d m D), [(blk1, .cells #[lv7] 43 (0, 0))], [(blk2, .cells #[ov7] 30 (0, 0))], (bk blk3 37 (.int .i64 111)), (lk blk4 d s 8 0 false), sm, sg1]) w55 := hS76.callL (xs := [(bk blk3 37 (.int .i64 111)), [(blk1, .cells #[.pointer none] 43 (0, 0))], (bk blk2 30 (.slice none 0 0))]) (xs' := [(bk blk3 37 (.int .i64 111)), [(blk1, .cells #[lv7] 43 (0, 0))], [(blk2, .cells #[ov7] 30 (0, 0))]]) (zs := []) [3, 1, 2] rfl (by decide) ht17 rfl rfl
            refine ⟨_, tells_cells3 Try.results19 rfl rfl rfl rfl rfl rfl one43 one30 one37 (St.cell_own (m := 1) rfl rfl _ hS77) (St.cell_own (m := 2) rfl rfl _ hS77) (St.cell_own (m := 3) rfl rfl _ hS77), ?_⟩
            refine ⟨_, rfl, ?_⟩
            have hS78 : St w0 K (fl [(pk d m D), sm]) w55 := hS77.pick [0, 5] rfl (by decide)
            have hne : 111 ≠ 0 := by omega
            exact ⟨111, D, sm, [], ⟨0, 0, false⟩, OpnS.bad hrd heR hBR hgd (bad_b hq2 hqs1 h8 h4m (by omega) hcs), ok, by omega, by omega, hM, .inl ⟨hne, by obtain ⟨q1, q2⟩ := hnz7 hne; subst q1; subst q2; rfl, hS78⟩⟩
     ·
      refine s_asb (b' := false) (decide_eq_false hpre2) ?_
      refine s_val hS31 rfl rfl (r_lnot rfl (.t rfl rfl)) ?_
      refine wpList_nil ?_
      refine x_tn ?_
      refine k_t (.t rfl rfl) ?_
      refine wp_seq ?_
      refine k_reg ?_
      refine s_storeB (m := 1) rfl rfl rfl one43 (.t rfl rfl) .c rfl hS31 rfl rfl (c' := #[.pointer none]) rfl (h' := (fl [(pk d m D), [(blk1, .cells #[.pointer none] 43 (0, 0))], (bk blk2 30 (.slice none 0 0)), (bk blk3 37 (.int .i64 (((eR : Nat) : Int)))), (lk blk4 d s 8 0 false), sm, sg1])) rfl fun w56 hS79 hB32 => ?_
      refine s_storeB (m := 2) rfl rfl rfl one30 (.t rfl rfl) .c rfl hS79 rfl rfl (c' := #[.slice none 0 0]) rfl (h' := (fl [(pk d m D), [(blk1, .cells #[.pointer none] 43 (0, 0))], (bk blk2 30 (.slice none 0 0)), (bk blk3 37 (.int .i64 (((eR : Nat) : Int)))), (lk blk4 d s 8 0 false), sm, sg1])) rfl fun w57 hS80 hB33 => ?_
      refine s_storeB (m := 3) rfl rfl rfl one37 (.t rfl rfl) .c rfl hS80 rfl rfl (c' := #[.int .i64 111]) rfl (h' := (fl [(pk d m D), [(blk1, .cells #[.pointer none] 43 (0, 0))], (bk blk2 30 (.slice none 0 0)), (bk blk3 37 (.int .i64 111)), (lk blk4 d s 8 0 false), sm, sg1])) rfl fun w58 hS81 hB34 => ?_
      refine wpList_nil ?_
      refine x_tn ?_
      refine wp_ret ?_
      refine x_tr ?_
      refine j_r ?_
      refine l_defer cb46 (Open1_ok w58 _ 111 _ _ _ _ _ (hS81.give (xs := [(bk blk3 37 (.int .i64 111)), [(blk1, .cells #[.pointer none] 43 (0, 0))], (bk blk2 30 (.slice none 0 0))]) [3, 1, 2] rfl (by decide))) ?_
      rintro _ w59 ⟨lv8, ov8, hz8, hnz8, ht18⟩
      have hS82 : St w0 K (fl [(pk d m D), [(blk1, .cells #[lv8] 43 (0, 0))], [(blk2, .cells #[ov8] 30 (0, 0))], (bk blk3 37 (.int .i64 111)), (lk blk4 d s 8 0 false), sm, sg1]) w59 := hS81.callL (xs := [(bk blk3 37 (.int .i64 111)), [(blk1, .cells #[.pointer none] 43 (0, 0))], (bk blk2 30 (.slice none 0 0))]) (xs' := [(bk blk3 37 (.int .i64 111)), [(blk1, .cells #[lv8] 43 (0, 0))], [(blk2, .cells #[ov8] 30 (0, 0))]]) (zs := []) [3, 1, 2] rfl (by decide) ht18 rfl rfl
      refine ⟨_, tells_cells3 Try.results19 rfl rfl rfl rfl rfl rfl one43 one30 one37 (St.cell_own (m := 1) rfl rfl _ hS82) (St.cell_own (m := 2) rfl rfl _ hS82) (St.cell_own (m := 3) rfl rfl _ hS82), ?_⟩
      refine ⟨_, rfl, ?_⟩
      have hS83 : St w0 K (fl [(pk d m D), sm]) w59 := hS82.pick [0, 5] rfl (by decide)
      have hne : 111 ≠ 0 := by omega
      exact ⟨111, D, sm, [], ⟨0, 0, false⟩, OpnS.head hrd (by omega) (fun h => absurd h.1 (by omega)) (head_not hrd.fit hpre2), ok, by omega, by omega, hM, .inl ⟨hne, by obtain ⟨q1, q2⟩ := hnz8 hne; subst q1; subst q2; rfl, hS83⟩⟩
   ·
    have heR := heT rfl
    refine x_tn ?_
    refine k_t (.t rfl rfl) ?_
    refine wp_seq ?_
    refine k_only ?_
    refine h_start (C := fun x => Has x (fl [(bk blk3 37 (.int .i64 (((eR : Nat) : Int))))])) mixed hS11 (L := [false, false, false, false]) rfl fun w60 hS84 => ?_
    have hH14 : Has w60 (fl [(bk blk3 37 (.int .i64 (((eR : Nat) : Int))))]) := (Has.cons_ (hS84.has (i := 3) rfl) Has.nil_)
    refine h_take (i := 0) NoP.only rfl rfl rfl (by kernel_rfl) (L' := [true, false, false, false]) rfl (r_load rfl one37 (.t rfl rfl) (Has.cell_own (i := 0) rfl rfl)) hH14 ?_
    refine h_all (rs := [1]) (by kernel_rfl) (by simp) ?_
    refine List.forall_mem_cons.2 ⟨h_op rfl (wanted_none rfl) ?_, by simp⟩
    refine s_storeB (m := 1) rfl rfl rfl one43 (.t rfl rfl) .c rfl hS84 rfl rfl (c' := #[.pointer none]) rfl (h' := (fl [(pk d m D), [(blk1, .cells #[.pointer none] 43 (0, 0))], (bk blk2 30 (.slice none 0 0)), (bk blk3 37 (.int .i64 (((eR : Nat) : Int)))), sm, sg1])) rfl fun w61 hS85 hB35 => ?_
    refine wpList_nil ?_
    refine x_tn ?_
    have hH15 : Has w61 (fl [(bk blk3 37 (.int .i64 (((eR : Nat) : Int))))]) := (Has.cons_ (hS85.has (i := 3) rfl) Has.nil_)
    refine ⟨hH15, ?_⟩
    refine h_all (rs := [2]) (by kernel_rfl) (by simp) ?_
    refine List.forall_mem_cons.2 ⟨h_op rfl (wanted_none rfl) ?_, by simp⟩
    refine s_storeB (m := 2) rfl rfl rfl one30 (.t rfl rfl) .c rfl hS85 rfl rfl (c' := #[.slice none 0 0]) rfl (h' := (fl [(pk d m D), [(blk1, .cells #[.pointer none] 43 (0, 0))], (bk blk2 30 (.slice none 0 0)), (bk blk3 37 (.int .i64 (((eR : Nat) : Int)))), sm, sg1])) rfl fun w62 hS86 hB36 => ?_
    refine wpList_nil ?_
    refine x_tn ?_
    have hH16 : Has w62 (fl [(bk blk3 37 (.int .i64 (((eR : Nat) : Int))))]) := (Has.cons_ (hS86.has (i := 3) rfl) Has.nil_)
    refine ⟨hH16, ?_⟩
    refine h_all (rs := [3]) (by kernel_rfl) (by simp) ?_
    refine List.forall_mem_cons.2 ⟨h_op rfl (wanted_none rfl) ?_, by simp⟩
    refine s_storeB (m := 3) rfl rfl rfl one37 (.t rfl rfl) (.t rfl rfl) rfl hS86 rfl rfl (c' := #[.int .i64 (((eR : Nat) : Int))]) rfl (h' := (fl [(pk d m D), [(blk1, .cells #[.pointer none] 43 (0, 0))], (bk blk2 30 (.slice none 0 0)), (bk blk3 37 (.int .i64 (((eR : Nat) : Int)))), sm, sg1])) rfl fun w63 hS87 hB37 => ?_
    refine wpList_nil ?_
    refine x_tn ?_
    have hH17 : Has w63 (fl [(bk blk3 37 (.int .i64 (((eR : Nat) : Int))))]) := (Has.cons_ (hS87.has (i := 3) rfl) Has.nil_)
    refine ⟨hH17, ?_⟩
    refine h_done (by kernel_rfl) ?_
    refine only_n ?_
    refine x_tn ?_
    refine wp_ret ?_
    refine x_tr ?_
    refine j_r ?_
    refine l_defer cb46 (Open1_ok w63 _ eR _ _ _ _ _ (hS87.give (xs := [(bk blk3 37 (.int .i64 (((eR : Nat) : Int)))), [(blk1, .cells #[.pointer none] 43 (0, 0))], (bk blk2 30 (.slice none 0 0))]) [3, 1, 2] rfl (by decide))) ?_
    rintro _ w64 ⟨lv9, ov9, hz9, hnz9, ht19⟩
    have hS88 : St w0 K (fl [(pk d m D), [(blk1, .cells #[lv9] 43 (0, 0))], [(blk2, .cells #[ov9] 30 (0, 0))], (bk blk3 37 (.int .i64 (((eR : Nat) : Int)))), sm, sg1]) w64 := hS87.callL (xs := [(bk blk3 37 (.int .i64 (((eR : Nat) : Int)))), [(blk1, .cells #[.pointer none] 43 (0, 0))], (bk blk2 30 (.slice none 0 0))]) (xs' := [(bk blk3 37 (.int .i64 (((eR : Nat) : Int)))), [(blk1, .cells #[lv9] 43 (0, 0))], [(blk2, .cells #[ov9] 30 (0, 0))]]) (zs := []) [3, 1, 2] rfl (by decide) ht19 rfl rfl
    refine ⟨_, tells_cells3 Try.results19 rfl rfl rfl rfl rfl rfl one43 one30 one37 (St.cell_own (m := 1) rfl rfl _ hS88) (St.cell_own (m := 2) rfl rfl _ hS88) (St.cell_own (m := 3) rfl rfl _ hS88), ?_⟩
    refine ⟨_, rfl, ?_⟩
    have hS89 : St w0 K (fl [(pk d m D), sm]) w64 := hS88.pick [0, 4] rfl (by decide)
    have hne : eR ≠ 0 := by omega
    exact ⟨eR, D, sm, [], ⟨0, 0, false⟩, OpnS.rd hrd (by omega) (by omega), ok, by omega, by omega, hM, .inl ⟨hne, by obtain ⟨q1, q2⟩ := hnz9 hne; subst q1; subst q2; rfl, hS89⟩⟩
 ·
  rintro _ m1 _ w4 (⟨rfl, G1, RR, R, k, zs, e0, l, ra, rc, oa, oc, sgb, sgo, rfl, hS7, ⟨hm, hk, hzs, he0, heR, hBR, hgd, hR, hO⟩⟩ | ⟨rfl, G2, RR, R, k, zs, e0, l, ra, rc, oa, oc, sgb, sgo, rfl, hS8, ⟨hm, htn, hk, hzs, he0, heR, hBR, hgd, hR, hO⟩⟩)
  ·
   have hBl := congrArg List.length hBR
   rw [List.length_append, List.length_append] at hBl
   have hhl : headL.length = 8 := rfl
   have hrl8 := recsL_long RR
   have hfR : ∀ x ∈ R, x ≤ 255 := hR.fit
   refine ⟨_, rfl, ?_⟩
   refine wp_seq ?_
   refine wp_skip ?_
   refine x_tn ?_
   refine wp_seq ?_
   refine wp_seq ?_
   refine k_reg ?_
   refine s_val hS7 rfl rfl (r_move rfl (.t rfl rfl)) ?_
   refine s_val hS7 rfl rfl (r_len rfl rfl Try.underlying22 (.t rfl rfl)) ?_
   by_cases h0 : R.length = 0
   ·
    refine s_val hS7 rfl rfl (r_cmp_t rfl rfl (.t rfl rfl) .c (show ((R.length : Nat) : Int) = 0 from by omega)) ?_
    refine wpList_nil ?_
    refine x_tn ?_
    refine k_t (.t rfl rfl) ?_
    refine wp_seq ?_
    refine k_only ?_
    refine h_start (C := fun x => Has x (fl [(bk blk1 43 (.pointer (some ⟨l, 0, none⟩))), (bk blk2 30 (.slice oa k oc))])) mixed hS7 (L := [false, false, false, false, false]) rfl fun w65 hS90 => ?_
    have hH18 : Has w65 (fl [(bk blk1 43 (.pointer (some ⟨l, 0, none⟩))), (bk blk2 30 (.slice oa k oc))]) := (Has.cons_ (hS90.has (i := 1) rfl) (Has.cons_ (hS90.has (i := 2) rfl) Has.nil_))
    refine h_take (i := 0) NoP.only rfl rfl rfl (by kernel_rfl) (L' := [true, false, false, false, false]) rfl (r_load rfl one43 (.t rfl rfl) (Has.cell_own (i := 0) rfl rfl)) hH18 ?_
    refine h_take (i := 1) NoP.only rfl rfl rfl (by kernel_rfl) (L' := [true, true, false, false, false]) rfl (r_load rfl one30 (.t rfl rfl) (Has.cell_own (i := 1) rfl rfl)) hH18 ?_
    refine h_all (rs := [2]) (by kernel_rfl) (by simp) ?_
    refine List.forall_mem_cons.2 ⟨h_op rfl (wanted_none rfl) ?_, by simp⟩
    refine s_storeB (m := 1) rfl rfl rfl one43 (.t rfl rfl) (.t rfl rfl) rfl hS90 rfl rfl (c' := #[.pointer (some ⟨l, 0, none⟩)]) rfl (h' := (fl [(pk d m D), (bk blk1 43 (.pointer (some ⟨l, 0, none⟩))), (bk blk2 30 (.slice oa k oc)), (bk blk3 37 (.int .i64 (((e0 : Nat) : Int)))), (lk l d s (((zs : Nat) : Int)) (((k : Nat) : Int)) false), sm, sgb, sgo])) rfl fun w66 hS91 hB38 => ?_
    refine wpList_nil ?_
    refine x_tn ?_
    have hH19 : Has w66 (fl [(bk blk1 43 (.pointer (some ⟨l, 0, none⟩))), (bk blk2 30 (.slice oa k oc))]) := (Has.cons_ (hS91.has (i := 1) rfl) (Has.cons_ (hS91.has (i := 2) rfl) Has.nil_))
    refine ⟨hH19, ?_⟩
    refine h_all (rs := [3]) (by kernel_rfl) (by simp) ?_
    refine List.forall_mem_cons.2 ⟨h_op rfl (wanted_none rfl) ?_, by simp⟩
    refine s_storeB (m := 2) rfl rfl rfl one30 (.t rfl rfl) (.t rfl rfl) rfl hS91 rfl rfl (c' := #[.slice oa k oc]) rfl (h' := (fl [(pk d m D), (bk blk1 43 (.pointer (some ⟨l, 0, none⟩))), (bk blk2 30 (.slice oa k oc)), (bk blk3 37 (.int .i64 (((e0 : Nat) : Int)))), (lk l d s (((zs : Nat) : Int)) (((k : Nat) : Int)) false), sm, sgb, sgo])) rfl fun w67 hS92 hB39 => ?_
    refine wpList_nil ?_
    refine x_tn ?_
    have hH20 : Has w67 (fl [(bk blk1 43 (.pointer (some ⟨l, 0, none⟩))), (bk blk2 30 (.slice oa k oc))]) := (Has.cons_ (hS92.has (i := 1) rfl) (Has.cons_ (hS92.has (i := 2) rfl) Has.nil_))
    refine ⟨hH20, ?_⟩
    refine h_all (rs := [4]) (by kernel_rfl) (by simp) ?_
    refine List.forall_mem_cons.2 ⟨h_op rfl (wanted_none rfl) ?_, by simp⟩
    refine s_storeB (m := 3) rfl rfl rfl one37 (.t rfl rfl) .c rfl hS92 rfl rfl (c' := #[.int .i64 0]) rfl (h' := (fl [(pk d m D), (bk blk1 43 (.pointer (some ⟨l, 0, none⟩))), (bk blk2 30 (.slice oa k oc)), (bk blk3 37 (.int .i64 0)), (lk l d s (((zs : Nat) : Int)) (((k : Nat) : Int)) false), sm, sgb, sgo])) rfl fun w68 hS93 hB40 => ?_
    refine wpList_nil ?_
    refine x_tn ?_
    have hH21 : Has w68 (fl [(bk blk1 43 (.pointer (some ⟨l, 0, none⟩))), (bk blk2 30 (.slice oa k oc))]) := (Has.cons_ (hS93.has (i := 1) rfl) (Has.cons_ (hS93.has (i := 2) rfl) Has.nil_))
    refine ⟨hH21, ?_⟩
    refine h_done (by kernel_rfl) ?_
    refine only_n ?_
    refine x_tn ?_
    refine wp_ret ?_
    refine x_tr ?_
    refine j_r ?_
    refine l_defer cb46 (Open1_ok w68 _ 0 _ _ _ _ _ (hS93.give (xs := [(bk blk3 37 (.int .i64 0)), (bk blk1 43 (.pointer (some ⟨l, 0, none⟩))), (bk blk2 30 (.slice oa k oc))]) [3, 1, 2] rfl (by decide))) ?_
    rintro _ w69 ⟨lv10, ov10, hz10, hnz10, ht20⟩
    have hS94 : St w0 K (fl [(pk d m D), [(blk1, .cells #[lv10] 43 (0, 0))], [(blk2, .cells #[ov10] 30 (0, 0))], (bk blk3 37 (.int .i64 0)), (lk l d s (((zs : Nat) : Int)) (((k : Nat) : Int)) false), sm, sgb, sgo]) w69 := hS93.callL (xs := [(bk blk3 37 (.int .i64 0)), (bk blk1 43 (.pointer (some ⟨l, 0, none⟩))), (bk blk2 30 (.slice oa k oc))]) (xs' := [(bk blk3 37 (.int .i64 0)), [(blk1, .cells #[lv10] 43 (0, 0))], [(blk2, .cells #[ov10] 30 (0, 0))]]) (zs := []) [3, 1, 2] rfl (by decide) ht20 rfl rfl
    refine ⟨_, tells_cells3 Try.results19 rfl rfl rfl rfl rfl rfl one43 one30 one37 (St.cell_own (m := 1) rfl rfl _ hS94) (St.cell_own (m := 2) rfl rfl _ hS94) (St.cell_own (m := 3) rfl rfl _ hS94), ?_⟩
    refine ⟨_, rfl, ?_⟩
    have hRn : R = [] := List.length_eq_zero_iff.1 (by omega)
    rw [hRn, List.append_nil] at hBR
    have hS95 : St w0 K (fl [(pk d m D), (lk l d s (((zs : Nat) : Int)) (((k : Nat) : Int)) false), sm, sgo]) w69 := hS94.pick [0, 4, 5, 7] rfl (by decide)
    subst hk; subst hzs
    obtain ⟨q1, q2⟩ := hz10 rfl
    subst q1; subst q2
    exact ⟨0, D, sm, RR, _, OpnS.clean hrd heR hBR hgd, ok, by omega, by omega, hM, .inr ⟨rfl, l, oa, oc, sgo, rfl, hO, hS95⟩⟩
   ·
    refine s_val hS7 rfl rfl (r_cmp_f rfl rfl (.t rfl rfl) .c (show ¬ (((R.length : Nat) : Int) = 0) from by omega)) ?_
    refine wpList_nil ?_
    refine x_tn ?_
    refine k_f (.t rfl rfl) ?_
    refine wp_skip ?_
    refine x_tn ?_
    refine wp_seq ?_
    refine wp_seq ?_
    refine k_reg ?_
    refine s_val hS7 rfl rfl (r_move rfl (.t rfl rfl)) ?_
    refine s_val hS7 rfl rfl (r_len rfl rfl Try.underlying22 (.t rfl rfl)) ?_
    by_cases h8 : R.length < 8
    ·
     refine s_val hS7 rfl rfl (r_cmp_t rfl rfl (.t rfl rfl) .c (show ((R.length : Nat) : Int) < 8 from by omega)) ?_
     refine wpList_nil ?_
     refine x_tn ?_
     refine k_t (.t rfl rfl) ?_
     refine wp_goto ?_
     refine x_tg ?_
     refine j_g ?_
     refine ⟨0, by omega, (.inr (⟨rfl, _, RR, R, k, zs, e0, l, ra, rc, oa, oc, sgb, sgo, fr_reb _ ⟨rfl, rfl, rfl, rfl, rfl, trivial⟩, hS7, ?_⟩))⟩
     exact ⟨rfl, torn_a h0 h8, by first | rfl | assumption | (simp; done) | (rw [List.length_append]; simp only [List.length_cons, List.length_nil]; omega), by first | rfl | assumption | omega, by omega, heR, hBR, hgd, hR, hO⟩
    ·
     refine s_val hS7 rfl rfl (r_cmp_f rfl rfl (.t rfl rfl) .c (show ¬ (((R.length : Nat) : Int) < 8) from by omega)) ?_
     refine wpList_nil ?_
     refine x_tn ?_
     refine k_f (.t rfl rfl) ?_
     refine wp_skip ?_
     refine x_tn ?_
     refine wp_seq ?_
     refine k_reg ?_
     refine s_val hS7 rfl rfl (r_move rfl (.t rfl rfl)) ?_
     refine s_call rfl rfl rfl (vs := [.slice ra R.length rc]) ⟨(.t rfl rfl), trivial⟩ cb49 (number_ok w4 ra rc R sgb hR (Old.of_piece (i := 6) (xs := []) [] hS7 rfl rfl (by decide)) (by omega) ) ?_
     rintro _ w70 ⟨q3, hq9, hql3, rfl, ht21⟩
     have hS96 : St w0 K (fl [(pk d m D), (bk blk1 43 (.pointer (some ⟨l, 0, none⟩))), (bk blk2 30 (.slice oa k oc)), (bk blk3 37 (.int .i64 (((e0 : Nat) : Int)))), (lk l d s (((zs : Nat) : Int)) (((k : Nat) : Int)) false), sm, sgb, sgo]) w70 := hS7.callL (xs := []) (xs' := []) (zs := []) [] rfl (by decide) ht21 rfl rfl
     refine s_val hS96 rfl rfl (r_conv rfl Try.underlying25 Try.underlying3 (.t rfl rfl) (c := ((q3 : Nat) : Int)) (wn_i64 rfl (by omega))) ?_
     refine s_val hS96 rfl rfl (r_assign rfl (.t rfl rfl)) ?_
     refine wpList_nil ?_
     refine x_tn ?_
     refine wp_seq ?_
     refine wp_seq ?_
     refine k_reg ?_
     refine s_val hS96 rfl rfl (r_move rfl (.t rfl rfl)) ?_
     by_cases h4m : q3 > 4194304
     ·
      refine s_val hS96 rfl rfl (r_cmp_t rfl rfl (.t rfl rfl) .c (show ((q3 : Nat) : Int) > 4194304 from by omega)) ?_
      refine wpList_nil ?_
      refine x_tn ?_
      refine k_t (.t rfl rfl) ?_
      refine wp_seq ?_
      refine k_reg ?_
      refine s_storeB (m := 1) rfl rfl rfl one43 (.t rfl rfl) .c rfl hS96 rfl rfl (c' := #[.pointer none]) rfl (h' := (fl [(pk d m D), [(blk1, .cells #[.pointer none] 43 (0, 0))], (bk blk2 30 (.slice oa k oc)), (bk blk3 37 (.int .i64 (((e0 : Nat) : Int)))), (lk l d s (((zs : Nat) : Int)) (((k : Nat) : Int)) false), sm, sgb, sgo])) rfl fun w71 hS97 hB41 => ?_
      refine s_storeB (m := 2) rfl rfl rfl one30 (.t rfl rfl) .c rfl hS97 rfl rfl (c' := #[.slice none 0 0]) rfl (h' := (fl [(pk d m D), [(blk1, .cells #[.pointer none] 43 (0, 0))], (bk blk2 30 (.slice none 0 0)), (bk blk3 37 (.int .i64 (((e0 : Nat) : Int)))), (lk l d s (((zs : Nat) : Int)) (((k : Nat) : Int)) false), sm, sgb, sgo])) rfl fun w72 hS98 hB42 => ?_
      refine s_storeB (m := 3) rfl rfl rfl one37 (.t rfl rfl) .c rfl hS98 rfl rfl (c' := #[.int .i64 111]) rfl (h' := (fl [(pk d m D), [(blk1, .cells #[.pointer none] 43 (0, 0))], (bk blk2 30 (.slice none 0 0)), (bk blk3 37 (.int .i64 111)), (lk l d s (((zs : Nat) : Int)) (((k : Nat) : Int)) false), sm, sgb, sgo])) rfl fun w73 hS99 hB43 => ?_
      refine wpList_nil ?_
      refine x_tn ?_
      refine wp_ret ?_
      refine x_tr ?_
      refine j_r ?_
      refine l_defer cb46 (Open1_ok w73 _ 111 _ _ _ _ _ (hS99.give (xs := [(bk blk3 37 (.int .i64 111)), [(blk1, .cells #[.pointer none] 43 (0, 0))], (bk blk2 30 (.slice none 0 0))]) [3, 1, 2] rfl (by decide))) ?_
      rintro _ w74 ⟨lv11, ov11, hz11, hnz11, ht22⟩
      have hS100 : St w0 K (fl [(pk d m D), [(blk1, .cells #[lv11] 43 (0, 0))], [(blk2, .cells #[ov11] 30 (0, 0))], (bk blk3 37 (.int .i64 111)), (lk l d s (((zs : Nat) : Int)) (((k : Nat) : Int)) false), sm, sgb, sgo]) w74 := hS99.callL (xs := [(bk blk3 37 (.int .i64 111)), [(blk1, .cells #[.pointer none] 43 (0, 0))], (bk blk2 30 (.slice none 0 0))]) (xs' := [(bk blk3 37 (.int .i64 111)), [(blk1, .cells #[lv11] 43 (0, 0))], [(blk2, .cells #[ov11] 30 (0, 0))]]) (zs := []) [3, 1, 2] rfl (by decide) ht22 rfl rfl
      refine ⟨_, tells_cells3 Try.results19 rfl rfl rfl rfl rfl rfl one43 one30 one37 (St.cell_own (m := 1) rfl rfl _ hS100) (St.cell_own (m := 2) rfl rfl _ hS100) (St.cell_own (m := 3) rfl rfl _ hS100), ?_⟩
      refine ⟨_, rfl, ?_⟩
      have hS101 : St w0 K (fl [(pk d m D), sm]) w74 := hS100.pick [0, 5] rfl (by decide)
      have hne : 111 ≠ 0 := by omega
      exact ⟨111, D, sm, RR, ⟨0, 0, false⟩, OpnS.bad hrd heR hBR hgd (bad_a hq9 h8 h4m), ok, by omega, by omega, hM, .inl ⟨hne, by obtain ⟨q1, q2⟩ := hnz11 hne; subst q1; subst q2; rfl, hS101⟩⟩
     ·
      refine s_val hS96 rfl rfl (r_cmp_f rfl rfl (.t rfl rfl) .c (show ¬ (((q3 : Nat) : Int) > 4194304) from by omega)) ?_
      refine wpList_nil ?_
      refine x_tn ?_
      refine k_f (.t rfl rfl) ?_
      refine wp_skip ?_
      refine x_tn ?_
      refine wp_seq ?_
      refine wp_seq ?_
      refine k_reg ?_
      refine s_val hS96 rfl rfl (r_move rfl (.t rfl rfl)) ?_
      refine s_val hS96 rfl rfl (r_move rfl (.t rfl rfl)) ?_
      refine s_val hS96 rfl rfl (r_len rfl rfl Try.underlying22 (.t rfl rfl)) ?_
      refine s_val hS96 rfl rfl (r_arith rfl rfl (.t rfl rfl) .c (c := ((R.length - 8 : Nat) : Int)) (wn_i64 (by show (((R.length : Nat) : Int) : Int) - 8 = _; omega) (by omega))) ?_
      by_cases hnq : q3 > R.length - 8
      ·
       refine s_val hS96 rfl rfl (r_cmp_t rfl rfl (.t rfl rfl) (.t rfl rfl) (show ((q3 : Nat) : Int) > ((R.length - 8 : Nat) : Int) from by omega)) ?_
       refine wpList_nil ?_
       refine x_tn ?_
       refine k_t (.t rfl rfl) ?_
       refine wp_goto ?_
       refine x_tg ?_
       refine j_g ?_
       refine ⟨0, by omega, (.inr (⟨rfl, _, RR, R, k, zs, e0, l, ra, rc, oa, oc, sgb, sgo, fr_reb _ ⟨rfl, rfl, rfl, rfl, rfl, trivial⟩, hS96, ?_⟩))⟩
       exact ⟨rfl, torn_b hq9 h8 h4m hnq, by first | rfl | assumption | (simp; done) | (rw [List.length_append]; simp only [List.length_cons, List.length_nil]; omega), by first | rfl | assumption | omega, by omega, heR, hBR, hgd, hR, hO⟩
      ·
       refine s_val hS96 rfl rfl (r_cmp_f rfl rfl (.t rfl rfl) (.t rfl rfl) (show ¬ (((q3 : Nat) : Int) > ((R.length - 8 : Nat) : Int)) from by omega)) ?_
       refine wpList_nil ?_
       refine x_tn ?_
       refine k_f (.t rfl rfl) ?_
       refine wp_skip ?_
       refine x_tn ?_
       refine wp_seq ?_
       refine wp_seq ?_
       refine k_join (fun a_ w_ => ∃ (G : Nat → Value) (b_ : Bool) (qs2 : Nat), a_ = fr 119 [(0, .pointer (some ⟨d, 0, none⟩)), (1, .string s), (4, .pointer (some ⟨blk1, 0, none⟩)), (5, .pointer (some ⟨blk2, 0, none⟩)), (6, .pointer (some ⟨blk3, 0, none⟩)), (7, .slice ra R.length rc), (8, .int .i64 (((q3 : Nat) : Int))), (47, .slice ra R.length rc), (48, .int .i64 (((R.length : Nat) : Int))), (49, .bool false), (52, .slice ra R.length rc), (53, .int .i64 (((R.length : Nat) : Int))), (54, .bool false), (55, .slice ra R.length rc), (56, .int .u32 (((q3 : Nat) : Int))), (57, .int .i64 (((q3 : Nat) : Int))), (58, .int .i64 (((q3 : Nat) : Int))), (59, .bool false), (60, .int .i64 (((q3 : Nat) : Int))), (61, .slice ra R.length rc), (62, .int .i64 (((R.length : Nat) : Int))), (63, .int .i64 (((R.length - 8 : Nat) : Int))), (64, .bool false), (76, .bool b_)] G [⟨.fn (.func 46) #[.pointer (some ⟨blk3, 0, none⟩), .pointer (some ⟨blk1, 0, none⟩), .pointer (some ⟨blk2, 0, none⟩)], #[]⟩] ∧ St w0 K (fl [(pk d m D), (bk blk1 43 (.pointer (some ⟨l, 0, none⟩))), (bk blk2 30 (.slice oa k oc)), (bk blk3 37 (.int .i64 (((e0 : Nat) : Int)))), (lk l d s (((zs : Nat) : Int)) (((k : Nat) : Int)) false), sm, sgb, sgo]) w_ ∧ (NumIs qs2 (R.drop 4) ∧ (b_ = true → ¬ crcM (crcM 0 (R.take 4)) ((R.take (8 + q3)).drop 8) = qs2) ∧ (b_ = false → crcM (crcM 0 (R.take 4)) ((R.take (8 + q3)).drop 8) = qs2))) ?_ ?_
       ·
        refine k_only ?_
        refine h_start (C := fun x => Has x (fl [sgb])) mixed hS96 (L := [false, false, false, false, false, false, false, false, false, false, false, false]) rfl fun w76 hS102 => ?_
        have hH22 : Has w76 (fl [sgb]) := (Has.cons_ (hS102.has (i := 6) rfl) Has.nil_)
        refine h_take (i := 0) NoP.only rfl rfl rfl (by kernel_rfl) (L' := [true, false, false, false, false, false, false, false, false, false, false, false]) rfl (r_move rfl (.t rfl rfl)) hH22 ?_
        have hq10 := (hR).le
        have hx7 : Sl .u8 ra rc (R.take 4) sgb := hR.take_ (by omega) (by omega) (by omega)
        have hn7 : (R.take 4).length = 4 := by rw [List.length_take]; omega
        refine h_take (i := 1) NoP.only rfl rfl rfl (by kernel_rfl) (L' := [true, true, false, false, false, false, false, false, false, false, false, false]) rfl (Rn.asSl (ad' := ra) (p' := (R.take 4).length) (q' := rc) (by simp [cutA]) (by omega) (by omega) (r_cutl rfl Try.underlying22 ti5 (.t rfl rfl) hR rfl .n (.s .c) .n (lw := 0) (hh := 4) (m := rc) (by omega) (by omega) (by omega) (by omega))) hH22 ?_
        refine h_take (i := 3) NoP.only rfl rfl rfl (by kernel_rfl) (L' := [true, true, false, true, false, false, false, false, false, false, false, false]) rfl (r_move rfl (.t rfl rfl)) hH22 ?_
        refine h_take (i := 4) NoP.only rfl rfl rfl (by kernel_rfl) (L' := [true, true, false, true, true, false, false, false, false, false, false, false]) rfl (r_move rfl (.t rfl rfl)) hH22 ?_
        refine h_take (i := 5) NoP.only rfl rfl rfl (by kernel_rfl) (L' := [true, true, false, true, true, true, false, false, false, false, false, false]) rfl (r_arith rfl rfl .c (.t rfl rfl) (c := ((8 + q3 : Nat) : Int)) (wn_i64 (by show (8 : Int) + ((q3 : Nat) : Int) = _; omega) (by omega))) hH22 ?_
        have hq11 := (hR).le
        have hx8 : Sl .u8 (cutA ra 8 rc) (rc - 8) ((R.take (8 + q3)).drop 8) sgb := hR.cut (by omega) (by omega) (by omega) (by omega)
        have hn8 : ((R.take (8 + q3)).drop 8).length = 8 + q3 - 8 := by simp only [List.length_drop, List.length_take] <;> omega
        refine h_take (i := 6) NoP.only rfl rfl rfl (by kernel_rfl) (L' := [true, true, false, true, true, true, true, false, false, false, false, false]) rfl (Rn.asSl (p' := ((R.take (8 + q3)).drop 8).length) rfl (by omega) rfl (r_cutl rfl Try.underlying22 ti5 (.t rfl rfl) hR rfl (.s .c) (.s (.t rfl rfl)) .n (lw := 8) (hh := 8 + q3) (m := rc) (by omega) (by omega) (by omega) (by omega))) hH22 ?_
        refine h_take (i := 8) NoP.only rfl rfl rfl (by kernel_rfl) (L' := [true, true, false, true, true, true, true, false, true, false, false, false]) rfl (r_move rfl (.t rfl rfl)) hH22 ?_
        have hq12 := (hR).le
        have hx9 : Sl .u8 (cutA ra 4 rc) (rc - 4) (R.drop 4) sgb := hR.drop_ (by omega)
        have hn9 : (R.drop 4).length = R.length - 4 := by simp only [List.length_drop, List.length_take] <;> omega
        refine h_take (i := 9) NoP.only rfl rfl rfl (by kernel_rfl) (L' := [true, true, false, true, true, true, true, false, true, true, false, false]) rfl (Rn.asSl (p' := (R.drop 4).length) rfl (by omega) rfl (r_cutl rfl Try.underlying22 ti5 (.t rfl rfl) hR rfl (.s .c) .n .n (lw := 4) (hh := R.length) (m := rc) (by omega) (by omega) (by omega) (by omega))) hH22 ?_
        refine h_all (rs := [2]) (by kernel_rfl) (by simp) ?_
        refine List.forall_mem_cons.2 ⟨h_op rfl (wanted_none rfl) ?_, by simp⟩
        refine s_call rfl rfl rfl (vs := [.slice ra ((R.take 4).length) rc]) ⟨(.t rfl rfl), trivial⟩ cb11 (Sum_ok w76 ra rc (R.take 4) sgb hx7 (Old.of_piece (i := 6) (xs := []) [] hS102 rfl rfl (by decide)) ) ?_
        rintro _ w77 ⟨rfl, ht23⟩
        have hS103 : St w0 K (fl [(pk d m D), (bk blk1 43 (.pointer (some ⟨l, 0, none⟩))), (bk blk2 30 (.slice oa k oc)), (bk blk3 37 (.int .i64 (((e0 : Nat) : Int)))), (lk l d s (((zs : Nat) : Int)) (((k : Nat) : Int)) false), sm, sgb, sgo]) w77 := hS102.callL (xs := []) (xs' := []) (zs := []) [] rfl (by decide) ht23 rfl rfl
        refine wpList_nil ?_
        refine x_tn ?_
        have hH23 : Has w77 (fl [sgb]) := (Has.cons_ (hS103.has (i := 6) rfl) Has.nil_)
        refine ⟨hH23, ?_⟩
        refine h_all (rs := [7]) (by kernel_rfl) (by simp) ?_
        refine List.forall_mem_cons.2 ⟨h_op rfl (wanted_none rfl) ?_, by simp⟩
        refine s_call rfl rfl rfl (vs := [.int .u32 (((crcM 0 ((R.take 4)) : Nat) : Int)), .slice (cutA ra 8 rc) (((R.take (8 + q3)).drop 8).length) (rc - 8)]) ⟨(.t rfl rfl), (.t rfl rfl), trivial⟩ cb41 (more_ok w77 (crcM 0 ((R.take 4))) (by first | omega | exact Nat.le_of_lt_succ crcM_lt) (cutA ra 8 rc) (rc - 8) ((R.take (8 + q3)).drop 8) sgb hx8 (Old.of_piece (i := 6) (xs := []) [] hS103 rfl rfl (by decide)) ) ?_
        rintro _ w78 ⟨rfl, ht24⟩
        have hS104 : St w0 K (fl [(pk d m D), (bk blk1 43 (.pointer (some ⟨l, 0, none⟩))), (bk blk2 30 (.slice oa k oc)), (bk blk3 37 (.int .i64 (((e0 : Nat) : Int)))), (lk l d s (((zs : Nat) : Int)) (((k : Nat) : Int)) false), sm, sgb, sgo]) w78 := hS103.callL (xs := []) (xs' := []) (zs := []) [] rfl (by decide) ht24 rfl rfl
        refine wpList_nil ?_
        refine x_tn ?_
        have hH24 : Has w78 (fl [sgb]) := (Has.cons_ (hS104.has (i := 6) rfl) Has.nil_)
        refine ⟨hH24, ?_⟩
        refine h_all (rs := [10]) (by kernel_rfl) (by simp) ?_
        refine List.forall_mem_cons.2 ⟨h_op rfl (wanted_none rfl) ?_, by simp⟩
        refine s_call rfl rfl rfl (vs := [.slice (cutA ra 4 rc) ((R.drop 4).length) (rc - 4)]) ⟨(.t rfl rfl), trivial⟩ cb49 (number_ok w78 (cutA ra 4 rc) (rc - 4) (R.drop 4) sgb hx9 (Old.of_piece (i := 6) (xs := []) [] hS104 rfl rfl (by decide)) (by omega) ) ?_
        rintro _ w79 ⟨q4, hq13, hql4, rfl, ht25⟩
        have hS105 : St w0 K (fl [(pk d m D), (bk blk1 43 (.pointer (some ⟨l, 0, none⟩))), (bk blk2 30 (.slice oa k oc)), (bk blk3 37 (.int .i64 (((e0 : Nat) : Int)))), (lk l d s (((zs : Nat) : Int)) (((k : Nat) : Int)) false), sm, sgb, sgo]) w79 := hS104.callL (xs := []) (xs' := []) (zs := []) [] rfl (by decide) ht25 rfl rfl
        refine wpList_nil ?_
        refine x_tn ?_
        have hH25 : Has w79 (fl [sgb]) := (Has.cons_ (hS105.has (i := 6) rfl) Has.nil_)
        refine ⟨hH25, ?_⟩
        by_cases hcs : crcM (crcM 0 ((R.take 4))) (((R.take (8 + q3)).drop 8)) ≠ q4
        ·
         refine h_take (i := 11) NoP.only rfl rfl rfl (by kernel_rfl) (L' := [true, true, true, true, true, true, true, true, true, true, true, true]) rfl (r_cmp_t rfl rfl (.t rfl rfl) (.t rfl rfl) (show ¬ ((crcM (crcM 0 ((R.take 4))) (((R.take (8 + q3)).drop 8)) : Nat) : Int) = ((q4 : Nat) : Int) from by omega)) hH25 ?_
         refine h_done (by kernel_rfl) ?_
         refine only_n ?_
         refine x_tn ?_
         refine ⟨_, true, q4, fr_reb _ ⟨rfl, rfl, rfl, rfl, rfl, rfl, rfl, rfl, rfl, rfl, rfl, rfl, rfl, rfl, rfl, rfl, rfl, rfl, rfl, rfl, rfl, rfl, rfl, rfl, trivial⟩, hS105, ?_⟩
         exact ⟨hq13, fun h => hcs, fun h => (nomatch h)⟩
        ·
         refine h_take (i := 11) NoP.only rfl rfl rfl (by kernel_rfl) (L' := [true, true, true, true, true, true, true, true, true, true, true, true]) rfl (r_cmp_f rfl rfl (.t rfl rfl) (.t rfl rfl) (show ¬ (¬ ((crcM (crcM 0 ((R.take 4))) (((R.take (8 + q3)).drop 8)) : Nat) : Int) = ((q4 : Nat) : Int)) from by omega)) hH25 ?_
         refine h_done (by kernel_rfl) ?_
         refine only_n ?_
         refine x_tn ?_
         refine ⟨_, false, q4, fr_reb _ ⟨rfl, rfl, rfl, rfl, rfl, rfl, rfl, rfl, rfl, rfl, rfl, rfl, rfl, rfl, rfl, rfl, rfl, rfl, rfl, rfl, rfl, rfl, rfl, rfl, trivial⟩, hS105, ?_⟩
         exact ⟨hq13, fun h => (nomatch h), fun h => Decidable.not_not.1 hcs⟩
       ·
        rintro _ w75 ⟨G5, b_, qs2, rfl, hS106, ⟨hqs2, hcT, hcF⟩⟩
        cases b_
        ·
         have hcs := hcF rfl
         refine x_tn ?_
         refine k_f (.t rfl rfl) ?_
         refine wp_skip ?_
         refine x_tn ?_
         refine wp_seq ?_
         refine wp_seq ?_
         refine k_reg ?_
         refine s_val hS106 rfl rfl (r_move rfl (.t rfl rfl)) ?_
         refine s_val hS106 rfl rfl (r_move rfl (.t rfl rfl)) ?_
         refine s_val hS106 rfl rfl (r_arith rfl rfl .c (.t rfl rfl) (c := ((8 + q3 : Nat) : Int)) (wn_i64 (by show (8 : Int) + ((q3 : Nat) : Int) = _; omega) (by omega))) ?_
         have hq14 := (hR).le
         have hx10 : Sl .u8 (cutA ra 8 rc) (rc - 8) ((R.take (8 + q3)).drop 8) sgb := hR.cut (by omega) (by omega) (by omega) (by omega)
         have hn10 : ((R.take (8 + q3)).drop 8).length = 8 + q3 - 8 := by simp only [List.length_drop, List.length_take] <;> omega
         refine s_val hS106 rfl rfl (Rn.asSl (p' := ((R.take (8 + q3)).drop 8).length) rfl (by omega) rfl (r_cutl rfl Try.underlying22 ti5 (.t rfl rfl) hR rfl (.s .c) (.s (.t rfl rfl)) .n (lw := 8) (hh := 8 + q3) (m := rc) (by omega) (by omega) (by omega) (by omega))) ?_
         refine s_call rfl rfl rfl (vs := [.slice (cutA ra 8 rc) (((R.take (8 + q3)).drop 8).length) (rc - 8)]) ⟨(.t rfl rfl), trivial⟩ cb50 (rows_ok w75 (cutA ra 8 rc) (rc - 8) ((R.take (8 + q3)).drop 8) sgb hx10 (Old.of_piece (i := 6) (xs := []) [] hS106 rfl rfl (by decide)) (by omega)) ?_
         rintro _ w80 (⟨LL2, ga3, gc3, sg4, hLL2, rfl, hG5, ht26⟩ | ⟨hLL2, rfl, ht26⟩)
         ·
          have hS107 : St w0 K (fl [(pk d m D), (bk blk1 43 (.pointer (some ⟨l, 0, none⟩))), (bk blk2 30 (.slice oa k oc)), (bk blk3 37 (.int .i64 (((e0 : Nat) : Int)))), (lk l d s (((zs : Nat) : Int)) (((k : Nat) : Int)) false), sm, sgb, sgo, sg4]) w80 := hS106.callL (xs := []) (xs' := []) (zs := [sg4]) [] rfl (by decide) ht26 rfl rfl
          refine s_val hS107 rfl rfl (r_move rfl (.t rfl rfl)) ?_
          refine s_val hS107 rfl rfl (r_extract rfl (.t rfl rfl) rfl) ?_
          refine s_val hS107 rfl rfl (r_extract rfl (.t rfl rfl) rfl) ?_
          by_cases hmr : LL2.length ≤ 4096
          ·
           refine s_asb (b' := true) (decide_eq_true hmr) ?_
           refine s_val hS107 rfl rfl (r_assign rfl (.t rfl rfl)) ?_
           refine s_val hS107 rfl rfl (r_assign rfl (.t rfl rfl)) ?_
           refine wpList_nil ?_
           refine x_tn ?_
           refine wp_seq ?_
           refine k_reg ?_
           refine s_val hS107 rfl rfl (r_move rfl (.t rfl rfl)) ?_
           refine wpList_nil ?_
           refine x_tn ?_
           refine k_t (.t rfl rfl) ?_
           refine wp_seq ?_
           refine k_reg ?_
           refine s_val hS107 rfl rfl (r_load rfl one30 (.t rfl rfl) (St.cell_own (m := 2) rfl rfl)) ?_
           refine s_val hS107 rfl rfl (r_move rfl (.t rfl rfl)) ?_
           refine s_litV rfl rfl rfl Try.underlying30 ti56 rfl (vs := [(0, .slice ga3 LL2.length gc3)]) ⟨rfl, (.t rfl rfl), trivial⟩ (L := [.slice ga3 LL2.length gc3]) rfl (by decide) rfl hS107 fun blk6 w81 hb6 hB44 hS108 => ?_
           have hS109 : St w0 K (fl [(pk d m D), (bk blk1 43 (.pointer (some ⟨l, 0, none⟩))), (bk blk2 30 (.slice oa k oc)), (bk blk3 37 (.int .i64 (((e0 : Nat) : Int)))), (lk l d s (((zs : Nat) : Int)) (((k : Nat) : Int)) false), (bk blk6 56 (.slice ga3 LL2.length gc3)), sm, sgb, sgo, sg4]) w81 := hS108.push 5 rfl
           obtain ⟨vs2, hg3, hr2, gA2, gB2, gC2, hS110⟩ := GrP.open_ (i := 8) hO hS109 rfl
           have hS111 : St w0 K (fl [(pk d m D), (bk blk1 43 (.pointer (some ⟨l, 0, none⟩))), (bk blk2 30 (.slice oa k oc)), (bk blk3 37 (.int .i64 (((e0 : Nat) : Int)))), (lk l d s (((zs : Nat) : Int)) (((k : Nat) : Int)) false), (bk blk6 56 (.slice ga3 LL2.length gc3)), sm, sgb, hg3, sg4, hr2]) w81 := hS110
           refine s_appendV (i := 8) (L := vs2) (A := [.slice ga3 LL2.length gc3]) rfl rfl rfl rfl ⟨_, _, rfl, Try.underlying30⟩ Try.underlying30 ti56 (by omega) (by omega) rfl (by simp [oneC]) (.t rfl rfl) (.t rfl rfl) rfl (by first | exact gC2 | (rw [gC2]; first | rfl | assumption | omega | (simp; done))) gA2 hS111 rfl (SlV.lit (by simp) (by simp)) (hS111.has (i := 5) rfl) (by rw [gC2]; first | (simp; done) | (simp only [List.length_cons, List.length_nil]; omega)) fun ga4 gc4 hg4 w82 hG6 hS112 => ?_
           have hS113 : St w0 K (fl [(pk d m D), (bk blk1 43 (.pointer (some ⟨l, 0, none⟩))), (bk blk2 30 (.slice oa k oc)), (bk blk3 37 (.int .i64 (((e0 : Nat) : Int)))), (lk l d s (((zs : Nat) : Int)) (((k : Nat) : Int)) false), (bk blk6 56 (.slice ga3 LL2.length gc3)), sm, sgb, hg4, sg4, hr2]) w82 := hS112
           obtain ⟨sg5, hG7, hS114⟩ : ∃ sg5 : Hp, GrP R2 56 ga4 gc4 (RR ++ [LL2]) sg5 ∧ St w0 K (fl [(pk d m D), (bk blk1 43 (.pointer (some ⟨l, 0, none⟩))), (bk blk2 30 (.slice oa k oc)), (bk blk3 37 (.int .i64 (((e0 : Nat) : Int)))), (lk l d s (((zs : Nat) : Int)) (((k : Nat) : Int)) false), sm, sgb, sg5]) w82 := ⟨_, GrP.snoc R2.mono hG6 gB2 (R2.of_gr hG5 (by omega)  (by first | rfl | omega | (simp; done) | (simp; omega))), ((hS113.merge (L' := [(pk d m D), (bk blk1 43 (.pointer (some ⟨l, 0, none⟩))), (bk blk2 30 (.slice oa k oc)), (bk blk3 37 (.int .i64 (((e0 : Nat) : Int)))), (lk l d s (((zs : Nat) : Int)) (((k : Nat) : Int)) false), (bk blk6 56 (.slice ga3 LL2.length gc3)), sm, sgb, hg4, [], (hr2 ++ sg4)]) 10 9 rfl rfl rfl rfl).merge (L' := [(pk d m D), (bk blk1 43 (.pointer (some ⟨l, 0, none⟩))), (bk blk2 30 (.slice oa k oc)), (bk blk3 37 (.int .i64 (((e0 : Nat) : Int)))), (lk l d s (((zs : Nat) : Int)) (((k : Nat) : Int)) false), (bk blk6 56 (.slice ga3 LL2.length gc3)), sm, sgb, (hg4 ++ (hr2 ++ sg4)), [], []]) 8 10 rfl rfl rfl rfl).pick [0, 1, 2, 3, 4, 6, 7, 8] rfl (by decide)⟩
           refine s_storeB (m := 2) rfl rfl rfl one30 (.t rfl rfl) (.t rfl rfl) rfl hS114 rfl rfl (c' := #[.slice ga4 (k + 1) gc4]) rfl (h' := (fl [(pk d m D), (bk blk1 43 (.pointer (some ⟨l, 0, none⟩))), (bk blk2 30 (.slice ga4 (k + 1) gc4)), (bk blk3 37 (.int .i64 (((e0 : Nat) : Int)))), (lk l d s (((zs : Nat) : Int)) (((k : Nat) : Int)) false), sm, sgb, sg5])) rfl fun w83 hS115 hB45 => ?_
           refine wpList_nil ?_
           refine x_tn ?_
           refine wp_seq ?_
           refine k_reg ?_
           refine s_val hS115 rfl rfl (r_load rfl one43 (.t rfl rfl) (St.cell_own (m := 1) rfl rfl)) ?_
           refine s_val hS115 rfl rfl (r_nilCheck rfl (.t rfl rfl)) ?_
           refine s_val hS115 rfl rfl (r_fieldN rfl Try.underlying92 rfl ti3 (by decide) (.t rfl rfl) (qq := 3) rfl) ?_
           refine s_val hS115 rfl rfl (r_load rfl one3 (.t rfl rfl) (St.cell_own (m := 4) rfl rfl)) ?_
           refine s_val hS115 rfl rfl (r_arith rfl rfl (.t rfl rfl) .c (c := ((k + 1 : Nat) : Int)) (wn_i64 (by show (((k : Nat) : Int) : Int) + 1 = _; omega) (by omega))) ?_
           refine s_val hS115 rfl rfl (r_nilCheck rfl (.t rfl rfl)) ?_
           refine s_val hS115 rfl rfl (r_fieldN rfl Try.underlying92 rfl ti3 (by decide) (.t rfl rfl) (qq := 3) rfl) ?_
           refine s_storeB (m := 4) rfl rfl rfl one3 (.t rfl rfl) (.t rfl rfl) rfl hS115 rfl rfl (c' := #[.pointer (some ⟨d, 0, none⟩), .string s, .int .i64 (((zs : Nat) : Int)), .int .i64 (((k + 1 : Nat) : Int)), .bool false]) rfl (h' := (fl [(pk d m D), (bk blk1 43 (.pointer (some ⟨l, 0, none⟩))), (bk blk2 30 (.slice ga4 (k + 1) gc4)), (bk blk3 37 (.int .i64 (((e0 : Nat) : Int)))), (lk l d s (((zs : Nat) : Int)) (((k + 1 : Nat) : Int)) false), sm, sgb, sg5])) rfl fun w84 hS116 hB46 => ?_
           refine wpList_nil ?_
           refine x_tn ?_
           refine wp_seq ?_
           refine k_reg ?_
           refine s_val hS116 rfl rfl (r_load rfl one43 (.t rfl rfl) (St.cell_own (m := 1) rfl rfl)) ?_
           refine s_val hS116 rfl rfl (r_nilCheck rfl (.t rfl rfl)) ?_
           refine s_val hS116 rfl rfl (r_fieldN rfl Try.underlying92 rfl ti3 (by decide) (.t rfl rfl) (qq := 2) rfl) ?_
           refine s_val hS116 rfl rfl (r_load rfl one3 (.t rfl rfl) (St.cell_own (m := 4) rfl rfl)) ?_
           refine s_val hS116 rfl rfl (r_move rfl (.t rfl rfl)) ?_
           refine s_val hS116 rfl rfl (r_arith rfl rfl .c (.t rfl rfl) (c := ((8 + q3 : Nat) : Int)) (wn_i64 (by show (8 : Int) + ((q3 : Nat) : Int) = _; omega) (by omega))) ?_
           refine s_val hS116 rfl rfl (r_arith rfl rfl (.t rfl rfl) (.t rfl rfl) (c := ((zs + (8 + q3) : Nat) : Int)) (wn_i64 (by show (((zs : Nat) : Int) : Int) + ((8 + q3 : Nat) : Int) = _; omega) (by omega))) ?_
           refine s_val hS116 rfl rfl (r_nilCheck rfl (.t rfl rfl)) ?_
           refine s_val hS116 rfl rfl (r_fieldN rfl Try.underlying92 rfl ti3 (by decide) (.t rfl rfl) (qq := 2) rfl) ?_
           refine s_storeB (m := 4) rfl rfl rfl one3 (.t rfl rfl) (.t rfl rfl) rfl hS116 rfl rfl (c' := #[.pointer (some ⟨d, 0, none⟩), .string s, .int .i64 (((zs + (8 + q3) : Nat) : Int)), .int .i64 (((k + 1 : Nat) : Int)), .bool false]) rfl (h' := (fl [(pk d m D), (bk blk1 43 (.pointer (some ⟨l, 0, none⟩))), (bk blk2 30 (.slice ga4 (k + 1) gc4)), (bk blk3 37 (.int .i64 (((e0 : Nat) : Int)))), (lk l d s (((zs + (8 + q3) : Nat) : Int)) (((k + 1 : Nat) : Int)) false), sm, sgb, sg5])) rfl fun w85 hS117 hB47 => ?_
           refine wpList_nil ?_
           refine x_tn ?_
           refine wp_seq ?_
           refine k_reg ?_
           refine s_val hS117 rfl rfl (r_move rfl (.t rfl rfl)) ?_
           refine s_val hS117 rfl rfl (r_move rfl (.t rfl rfl)) ?_
           refine s_val hS117 rfl rfl (r_arith rfl rfl .c (.t rfl rfl) (c := ((8 + q3 : Nat) : Int)) (wn_i64 (by show (8 : Int) + ((q3 : Nat) : Int) = _; omega) (by omega))) ?_
           have hq15 := (hR).le
           have hx11 : Sl .u8 (cutA ra (8 + q3) rc) (rc - (8 + q3)) (R.drop (8 + q3)) sgb := hR.drop_ (by omega)
           have hn11 : (R.drop (8 + q3)).length = R.length - (8 + q3) := by simp only [List.length_drop, List.length_take] <;> omega
           refine s_val hS117 rfl rfl (Rn.asSl (p' := (R.drop (8 + q3)).length) rfl (by omega) rfl (r_cutl rfl Try.underlying22 ti5 (.t rfl rfl) hR rfl (.s (.t rfl rfl)) .n .n (lw := 8 + q3) (hh := R.length) (m := rc) (by omega) (by omega) (by omega) (by omega))) ?_
           refine s_val hS117 rfl rfl (r_assign rfl (.t rfl rfl)) ?_
           refine wpList_nil ?_
           refine x_tn ?_
           refine wp_goto ?_
           refine x_tg ?_
           refine j_g ?_
           refine ⟨(R.drop (8 + q3)).length + 1, by omega, (.inl ⟨rfl, _, (RR ++ [LL2]), (R.drop (8 + q3)), (k + 1), (zs + (8 + q3)), e0, l, (cutA ra (8 + q3) rc), (rc - (8 + q3)), ga4, gc4, sgb, sg5, fr_reb _ ⟨rfl, rfl, rfl, rfl, rfl, rfl, trivial⟩, hS117, ?_⟩)⟩
           obtain ⟨hN1, hN2, hN3⟩ := opn_next hBR hgd hfR hq9 hqs2 h8 h4m (by omega) hcs hLL2 hmr
           exact ⟨rfl, by first | rfl | assumption | (simp; done) | (rw [List.length_append]; simp only [List.length_cons, List.length_nil]; omega), by first | rfl | assumption | omega, by omega, heR, hN2, hN3, hx11, hG7⟩
          ·
           refine s_asb (b' := false) (decide_eq_false hmr) ?_
           refine s_val hS107 rfl rfl (r_assign rfl (.t rfl rfl)) ?_
           refine s_val hS107 rfl rfl (r_assign rfl (.t rfl rfl)) ?_
           refine wpList_nil ?_
           refine x_tn ?_
           refine wp_seq ?_
           refine k_reg ?_
           refine s_val hS107 rfl rfl (r_move rfl (.t rfl rfl)) ?_
           refine wpList_nil ?_
           refine x_tn ?_
           refine k_f (.t rfl rfl) ?_
           refine wp_skip ?_
           refine x_tn ?_
           refine wp_seq ?_
           refine wp_seq ?_
           refine k_reg ?_
           refine s_storeB (m := 1) rfl rfl rfl one43 (.t rfl rfl) .c rfl hS107 rfl rfl (c' := #[.pointer none]) rfl (h' := (fl [(pk d m D), [(blk1, .cells #[.pointer none] 43 (0, 0))], (bk blk2 30 (.slice oa k oc)), (bk blk3 37 (.int .i64 (((e0 : Nat) : Int)))), (lk l d s (((zs : Nat) : Int)) (((k : Nat) : Int)) false), sm, sgb, sgo, sg4])) rfl fun w86 hS118 hB48 => ?_
           refine s_storeB (m := 2) rfl rfl rfl one30 (.t rfl rfl) .c rfl hS118 rfl rfl (c' := #[.slice none 0 0]) rfl (h' := (fl [(pk d m D), [(blk1, .cells #[.pointer none] 43 (0, 0))], (bk blk2 30 (.slice none 0 0)), (bk blk3 37 (.int .i64 (((e0 : Nat) : Int)))), (lk l d s (((zs : Nat) : Int)) (((k : Nat) : Int)) false), sm, sgb, sgo, sg4])) rfl fun w87 hS119 hB49 => ?_
           refine s_storeB (m := 3) rfl rfl rfl one37 (.t rfl rfl) .c rfl hS119 rfl rfl (c' := #[.int .i64 111]) rfl (h' := (fl [(pk d m D), [(blk1, .cells #[.pointer none] 43 (0, 0))], (bk blk2 30 (.slice none 0 0)), (bk blk3 37 (.int .i64 111)), (lk l d s (((zs : Nat) : Int)) (((k : Nat) : Int)) false), sm, sgb, sgo, sg4])) rfl fun w88 hS120 hB50 => ?_
           refine wpList_nil ?_
           refine x_tn ?_
           refine wp_ret ?_
           refine x_tr ?_
           refine j_r ?_
           refine l_defer cb46 (Open1_ok w88 _ 111 _ _ _ _ _ (hS120.give (xs := [(bk blk3 37 (.int .i64 111)), [(blk1, .cells #[.pointer none] 43 (0, 0))], (bk blk2 30 (.slice none 0 0))]) [3, 1, 2] rfl (by decide))) ?_
           rintro _ w89 ⟨lv12, ov12, hz12, hnz12, ht27⟩
           have hS121 : St w0 K (fl [(pk d m D), [(blk1, .cells #[lv12] 43 (0, 0))], [(blk2, .cells #[ov12] 30 (0, 0))], (bk blk3 37 (.int .i64 111)), (lk l d s (((zs : Nat) : Int)) (((k : Nat) : Int)) false), sm, sgb, sgo, sg4]) w89 := hS120.callL (xs := [(bk blk3 37 (.int .i64 111)), [(blk1, .cells #[.pointer none] 43 (0, 0))], (bk blk2 30 (.slice none 0 0))]) (xs' := [(bk blk3 37 (.int .i64 111)), [(blk1, .cells #[lv12] 43 (0, 0))], [(blk2, .cells #[ov12] 30 (0, 0))]]) (zs := []) [3, 1, 2] rfl (by decide) ht27 rfl rfl
           refine ⟨_, tells_cells3 Try.results19 rfl rfl rfl rfl rfl rfl one43 one30 one37 (St.cell_own (m := 1) rfl rfl _ hS121) (St.cell_own (m := 2) rfl rfl _ hS121) (St.cell_own (m := 3) rfl rfl _ hS121), ?_⟩
           refine ⟨_, rfl, ?_⟩
           have hS122 : St w0 K (fl [(pk d m D), sm]) w89 := hS121.pick [0, 5] rfl (by decide)
           have hne : 111 ≠ 0 := by omega
           exact ⟨111, D, sm, RR, ⟨0, 0, false⟩, OpnS.bad hrd heR hBR hgd (bad_d hq9 (by omega) h8 h4m (by omega) hLL2 hmr), ok, by omega, by omega, hM, .inl ⟨hne, by obtain ⟨q1, q2⟩ := hnz12 hne; subst q1; subst q2; rfl, hS122⟩⟩
         ·
          have hS107 : St w0 K (fl [(pk d m D), (bk blk1 43 (.pointer (some ⟨l, 0, none⟩))), (bk blk2 30 (.slice oa k oc)), (bk blk3 37 (.int .i64 (((e0 : Nat) : Int)))), (lk l d s (((zs : Nat) : Int)) (((k : Nat) : Int)) false), sm, sgb, sgo]) w80 := hS106.callL (xs := []) (xs' := []) (zs := []) [] rfl (by decide) ht26 rfl rfl
          refine s_val hS107 rfl rfl (r_move rfl (.t rfl rfl)) ?_
          refine s_val hS107 rfl rfl (r_extract rfl (.t rfl rfl) rfl) ?_
          refine s_val hS107 rfl rfl (r_extract rfl (.t rfl rfl) rfl) ?_
          refine s_val hS107 rfl rfl (r_assign rfl (.t rfl rfl)) ?_
          refine s_val hS107 rfl rfl (r_assign rfl (.t rfl rfl)) ?_
          refine wpList_nil ?_
          refine x_tn ?_
          refine wp_seq ?_
          refine k_reg ?_
          refine s_val hS107 rfl rfl (r_move rfl (.t rfl rfl)) ?_
          refine wpList_nil ?_
          refine x_tn ?_
          refine k_f (.t rfl rfl) ?_
          refine wp_skip ?_
          refine x_tn ?_
          refine wp_seq ?_
          refine wp_seq ?_
          refine k_reg ?_
          refine s_storeB (m := 1) rfl rfl rfl one43 (.t rfl rfl) .c rfl hS107 rfl rfl (c' := #[.pointer none]) rfl (h' := (fl [(pk d m D), [(blk1, .cells #[.pointer none] 43 (0, 0))], (bk blk2 30 (.slice oa k oc)), (bk blk3 37 (.int .i64 (((e0 : Nat) : Int)))), (lk l d s (((zs : Nat) : Int)) (((k : Nat) : Int)) false), sm, sgb, sgo])) rfl fun w90 hS123 hB51 => ?_
          refine s_storeB (m := 2) rfl rfl rfl one30 (.t rfl rfl) .c rfl hS123 rfl rfl (c' := #[.slice none 0 0]) rfl (h' := (fl [(pk d m D), [(blk1, .cells #[.pointer none] 43 (0, 0))], (bk blk2 30 (.slice none 0 0)), (bk blk3 37 (.int .i64 (((e0 : Nat) : Int)))), (lk l d s (((zs : Nat) : Int)) (((k : Nat) : Int)) false), sm, sgb, sgo])) rfl fun w91 hS124 hB52 => ?_
          refine s_storeB (m := 3) rfl rfl rfl one37 (.t rfl rfl) .c rfl hS124 rfl rfl (c' := #[.int .i64 111]) rfl (h' := (fl [(pk d m D), [(blk1, .cells #[.pointer none] 43 (0, 0))], (bk blk2 30 (.slice none 0 0)), (bk blk3 37 (.int .i64 111)), (lk l d s (((zs : Nat) : Int)) (((k : Nat) : Int)) false), sm, sgb, sgo])) rfl fun w92 hS125 hB53 => ?_
          refine wpList_nil ?_
          refine x_tn ?_
          refine wp_ret ?_
          refine x_tr ?_
          refine j_r ?_
          refine l_defer cb46 (Open1_ok w92 _ 111 _ _ _ _ _ (hS125.give (xs := [(bk blk3 37 (.int .i64 111)), [(blk1, .cells #[.pointer none] 43 (0, 0))], (bk blk2 30 (.slice none 0 0))]) [3, 1, 2] rfl (by decide))) ?_
          rintro _ w93 ⟨lv13, ov13, hz13, hnz13, ht28⟩
          have hS126 : St w0 K (fl [(pk d m D), [(blk1, .cells #[lv13] 43 (0, 0))], [(blk2, .cells #[ov13] 30 (0, 0))], (bk blk3 37 (.int .i64 111)), (lk l d s (((zs : Nat) : Int)) (((k : Nat) : Int)) false), sm, sgb, sgo]) w93 := hS125.callL (xs := [(bk blk3 37 (.int .i64 111)), [(blk1, .cells #[.pointer none] 43 (0, 0))], (bk blk2 30 (.slice none 0 0))]) (xs' := [(bk blk3 37 (.int .i64 111)), [(blk1, .cells #[lv13] 43 (0, 0))], [(blk2, .cells #[ov13] 30 (0, 0))]]) (zs := []) [3, 1, 2] rfl (by decide) ht28 rfl rfl
          refine ⟨_, tells_cells3 Try.results19 rfl rfl rfl rfl rfl rfl one43 one30 one37 (St.cell_own (m := 1) rfl rfl _ hS126) (St.cell_own (m := 2) rfl rfl _ hS126) (St.cell_own (m := 3) rfl rfl _ hS126), ?_⟩
          refine ⟨_, rfl, ?_⟩
          have hS127 : St w0 K (fl [(pk d m D), sm]) w93 := hS126.pick [0, 5] rfl (by decide)
          have hne : 111 ≠ 0 := by omega
          exact ⟨111, D, sm, RR, ⟨0, 0, false⟩, OpnS.bad hrd heR hBR hgd (bad_c hq9 h8 h4m (by omega) hLL2), ok, by omega, by omega, hM, .inl ⟨hne, by obtain ⟨q1, q2⟩ := hnz13 hne; subst q1; subst q2; rfl, hS127⟩⟩
        ·
         have hcs := hcT rfl
         refine x_tn ?_
         refine k_t (.t rfl rfl) ?_
         refine wp_seq ?_
         refine k_reg ?_
         refine s_storeB (m := 1) rfl rfl rfl one43 (.t rfl rfl) .c rfl hS106 rfl rfl (c' := #[.pointer none]) rfl (h' := (fl [(pk d m D), [(blk1, .cells #[.pointer none] 43 (0, 0))], (bk blk2 30 (.slice oa k oc)), (bk blk3 37 (.int .i64 (((e0 : Nat) : Int)))), (lk l d s (((zs : Nat) : Int)) (((k : Nat) : Int)) false), sm, sgb, sgo])) rfl fun w94 hS128 hB54 => ?_
         refine s_storeB (m := 2) rfl rfl rfl one30 (.t rfl rfl) .c rfl hS128 rfl rfl (c' := #[.slice none 0 0]) rfl (h' := (fl [(pk d m D), [(blk1, .cells #[.pointer none] 43 (0, 0))], (bk blk2 30 (.slice none 0 0)), (bk blk3 37 (.int .i64 (((e0 : Nat) : Int)))), (lk l d s (((zs : Nat) : Int)) (((k : Nat) : Int)) false), sm, sgb, sgo])) rfl fun w95 hS129 hB55 => ?_
         refine s_storeB (m := 3) rfl rfl rfl one37 (.t rfl rfl) .c rfl hS129 rfl rfl (c' := #[.int .i64 111]) rfl (h' := (fl [(pk d m D), [(blk1, .cells #[.pointer none] 43 (0, 0))], (bk blk2 30 (.slice none 0 0)), (bk blk3 37 (.int .i64 111)), (lk l d s (((zs : Nat) : Int)) (((k : Nat) : Int)) false), sm, sgb, sgo])) rfl fun w96 hS130 hB56 => ?_
         refine wpList_nil ?_
         refine x_tn ?_
         refine wp_ret ?_
         refine x_tr ?_
         refine j_r ?_
         refine l_defer cb46 (Open1_ok w96 _ 111 _ _ _ _ _ (hS130.give (xs := [(bk blk3 37 (.int .i64 111)), [(blk1, .cells #[.pointer none] 43 (0, 0))], (bk blk2 30 (.slice none 0 0))]) [3, 1, 2] rfl (by decide))) ?_
         rintro _ w97 ⟨lv14, ov14, hz14, hnz14, ht29⟩
         have hS131 : St w0 K (fl [(pk d m D), [(blk1, .cells #[lv14] 43 (0, 0))], [(blk2, .cells #[ov14] 30 (0, 0))], (bk blk3 37 (.int .i64 111)), (lk l d s (((zs : Nat) : Int)) (((k : Nat) : Int)) false), sm, sgb, sgo]) w97 := hS130.callL (xs := [(bk blk3 37 (.int .i64 111)), [(blk1, .cells #[.pointer none] 43 (0, 0))], (bk blk2 30 (.slice none 0 0))]) (xs' := [(bk blk3 37 (.int .i64 111)), [(blk1, .cells #[lv14] 43 (0, 0))], [(blk2, .cells #[ov14] 30 (0, 0))]]) (zs := []) [3, 1, 2] rfl (by decide) ht29 rfl rfl
         refine ⟨_, tells_cells3 Try.results19 rfl rfl rfl rfl rfl rfl one43 one30 one37 (St.cell_own (m := 1) rfl rfl _ hS131) (St.cell_own (m := 2) rfl rfl _ hS131) (St.cell_own (m := 3) rfl rfl _ hS131), ?_⟩
         refine ⟨_, rfl, ?_⟩
         have hS132 : St w0 K (fl [(pk d m D), sm]) w97 := hS131.pick [0, 5] rfl (by decide)
         have hne : 111 ≠ 0 := by omega
         exact ⟨111, D, sm, RR, ⟨0, 0, false⟩, OpnS.bad hrd heR hBR hgd (bad_b hq9 hqs2 h8 h4m (by omega) hcs), ok, by omega, by omega, hM, .inl ⟨hne, by obtain ⟨q1, q2⟩ := hnz14 hne; subst q1; subst q2; rfl, hS132⟩⟩
  ·
   have hBl := congrArg List.length hBR
   rw [List.length_append, List.length_append] at hBl
   have hhl : headL.length = 8 := rfl
   have hrl8 := recsL_long RR
   have hfR : ∀ x ∈ R, x ≤ 255 := hR.fit
   refine ⟨_, rfl, ?_⟩
   refine wp_seq ?_
   refine wp_skip ?_
   refine x_tn ?_
   refine wp_seq ?_
   refine k_only ?_
   refine h_start (C := fun x => Has x (fl [(bk blk1 43 (.pointer (some ⟨l, 0, none⟩))), (bk blk2 30 (.slice oa k oc)), (lk l d s (((zs : Nat) : Int)) (((k : Nat) : Int)) false)])) mixed hS8 (L := [false, false, false, false, false, false, false, false, false, false, false, false]) rfl fun w98 hS133 => ?_
   have hH26 : Has w98 (fl [(bk blk1 43 (.pointer (some ⟨l, 0, none⟩))), (bk blk2 30 (.slice oa k oc)), (lk l d s (((zs : Nat) : Int)) (((k : Nat) : Int)) false)]) := (Has.cons_ (hS133.has (i := 1) rfl) (Has.cons_ (hS133.has (i := 2) rfl) (Has.cons_ (hS133.has (i := 4) rfl) Has.nil_)))
   refine h_take (i := 0) NoP.only rfl rfl rfl (by kernel_rfl) (L' := [true, false, false, false, false, false, false, false, false, false, false, false]) rfl (r_load rfl one43 (.t rfl rfl) (Has.cell_own (i := 0) rfl rfl)) hH26 ?_
   refine h_take (i := 1) NoP.only rfl rfl rfl (by kernel_rfl) (L' := [true, true, false, false, false, false, false, false, false, false, false, false]) rfl (r_load rfl one30 (.t rfl rfl) (Has.cell_own (i := 1) rfl rfl)) hH26 ?_
   refine h_take (i := 2) NoP.only rfl rfl rfl (by kernel_rfl) (L' := [true, true, true, false, false, false, false, false, false, false, false, false]) rfl (r_move rfl (.t rfl rfl)) hH26 ?_
   refine h_take (i := 3) NoP.only rfl rfl rfl (by kernel_rfl) (L' := [true, true, true, true, false, false, false, false, false, false, false, false]) rfl (r_move rfl (.t rfl rfl)) hH26 ?_
   refine h_take (i := 4) NoP.only rfl rfl rfl (by kernel_rfl) (L' := [true, true, true, true, true, false, false, false, false, false, false, false]) rfl (r_load rfl one43 (.t rfl rfl) (Has.cell_own (i := 0) rfl rfl)) hH26 ?_
   refine h_take (i := 5) NoP.only rfl rfl rfl (by kernel_rfl) (L' := [true, true, true, true, true, true, false, false, false, false, false, false]) rfl (r_nilCheck rfl (.t rfl rfl)) hH26 ?_
   refine h_take (i := 6) NoP.only rfl rfl rfl (by kernel_rfl) (L' := [true, true, true, true, true, true, true, false, false, false, false, false]) rfl (r_fieldN rfl Try.underlying92 rfl ti3 (by decide) (.t rfl rfl) (qq := 2) rfl) hH26 ?_
   refine h_take (i := 7) NoP.only rfl rfl rfl (by kernel_rfl) (L' := [true, true, true, true, true, true, true, true, false, false, false, false]) rfl (r_load rfl one3 (.t rfl rfl) (Has.cell_own (i := 2) rfl rfl)) hH26 ?_
   refine h_all (rs := [8]) (by kernel_rfl) (by simp) ?_
   refine List.forall_mem_cons.2 ⟨h_op rfl (wanted_none rfl) ?_, by simp⟩
   refine s_call rfl rfl rfl (vs := [.pointer (some ⟨d, 0, none⟩), .string s, .int .i64 (((zs : Nat) : Int))]) ⟨(.t rfl rfl), (.t rfl rfl), (.t rfl rfl), trivial⟩ cb24 (Cut_st w98 _ d m D ok sm hM s (by omega) (((zs : Nat) : Int)) (by omega) (by omega) (hS133.give (xs := [(pk d m D), sm]) [0, 5] rfl (by decide))) ?_
   rintro _ w99 ⟨e3, D2, sm2, hst2, rfl, hM2, ht30⟩
   have hS134 : St w0 K (fl [(pk d m D2), (bk blk1 43 (.pointer (some ⟨l, 0, none⟩))), (bk blk2 30 (.slice oa k oc)), (bk blk3 37 (.int .i64 (((e0 : Nat) : Int)))), (lk l d s (((zs : Nat) : Int)) (((k : Nat) : Int)) false), sm2, sgb, sgo]) w99 := hS133.callL (xs := [(pk d m D), sm]) (xs' := [(pk d m D2), sm2]) (zs := []) [0, 5] rfl (by decide) ht30 rfl rfl
   have hle2 := hst2.le
   have hwr2 := hst2.wr
   refine wpList_nil ?_
   refine x_tn ?_
   have hH27 : Has w99 (fl [(bk blk1 43 (.pointer (some ⟨l, 0, none⟩))), (bk blk2 30 (.slice oa k oc)), (lk l d s (((zs : Nat) : Int)) (((k : Nat) : Int)) false)]) := (Has.cons_ (hS134.has (i := 1) rfl) (Has.cons_ (hS134.has (i := 2) rfl) (Has.cons_ (hS134.has (i := 4) rfl) Has.nil_)))
   refine ⟨hH27, ?_⟩
   refine h_all (rs := [9]) (by kernel_rfl) (by simp) ?_
   refine List.forall_mem_cons.2 ⟨h_op rfl (wanted_none rfl) ?_, by simp⟩
   refine s_storeB (m := 1) rfl rfl rfl one43 (.t rfl rfl) (.t rfl rfl) rfl hS134 rfl rfl (c' := #[.pointer (some ⟨l, 0, none⟩)]) rfl (h' := (fl [(pk d m D2), (bk blk1 43 (.pointer (some ⟨l, 0, none⟩))), (bk blk2 30 (.slice oa k oc)), (bk blk3 37 (.int .i64 (((e0 : Nat) : Int)))), (lk l d s (((zs : Nat) : Int)) (((k : Nat) : Int)) false), sm2, sgb, sgo])) rfl fun w100 hS135 hB57 => ?_
   refine wpList_nil ?_
   refine x_tn ?_
   have hH28 : Has w100 (fl [(bk blk1 43 (.pointer (some ⟨l, 0, none⟩))), (bk blk2 30 (.slice oa k oc)), (lk l d s (((zs : Nat) : Int)) (((k : Nat) : Int)) false)]) := (Has.cons_ (hS135.has (i := 1) rfl) (Has.cons_ (hS135.has (i := 2) rfl) (Has.cons_ (hS135.has (i := 4) rfl) Has.nil_)))
   refine ⟨hH28, ?_⟩
   refine h_all (rs := [10]) (by kernel_rfl) (by simp) ?_
   refine List.forall_mem_cons.2 ⟨h_op rfl (wanted_none rfl) ?_, by simp⟩
   refine s_storeB (m := 2) rfl rfl rfl one30 (.t rfl rfl) (.t rfl rfl) rfl hS135 rfl rfl (c' := #[.slice oa k oc]) rfl (h' := (fl [(pk d m D2), (bk blk1 43 (.pointer (some ⟨l, 0, none⟩))), (bk blk2 30 (.slice oa k oc)), (bk blk3 37 (.int .i64 (((e0 : Nat) : Int)))), (lk l d s (((zs : Nat) : Int)) (((k : Nat) : Int)) false), sm2, sgb, sgo])) rfl fun w101 hS136 hB58 => ?_
   refine wpList_nil ?_
   refine x_tn ?_
   have hH29 : Has w101 (fl [(bk blk1 43 (.pointer (some ⟨l, 0, none⟩))), (bk blk2 30 (.slice oa k oc)), (lk l d s (((zs : Nat) : Int)) (((k : Nat) : Int)) false)]) := (Has.cons_ (hS136.has (i := 1) rfl) (Has.cons_ (hS136.has (i := 2) rfl) (Has.cons_ (hS136.has (i := 4) rfl) Has.nil_)))
   refine ⟨hH29, ?_⟩
   refine h_all (rs := [11]) (by kernel_rfl) (by simp) ?_
   refine List.forall_mem_cons.2 ⟨h_op rfl (wanted_none rfl) ?_, by simp⟩
   refine s_storeB (m := 3) rfl rfl rfl one37 (.t rfl rfl) (.t rfl rfl) rfl hS136 rfl rfl (c' := #[.int .i64 (((e3 : Nat) : Int))]) rfl (h' := (fl [(pk d m D2), (bk blk1 43 (.pointer (some ⟨l, 0, none⟩))), (bk blk2 30 (.slice oa k oc)), (bk blk3 37 (.int .i64 (((e3 : Nat) : Int)))), (lk l d s (((zs : Nat) : Int)) (((k : Nat) : Int)) false), sm2, sgb, sgo])) rfl fun w102 hS137 hB59 => ?_
   refine wpList_nil ?_
   refine x_tn ?_
   have hH30 : Has w102 (fl [(bk blk1 43 (.pointer (some ⟨l, 0, none⟩))), (bk blk2 30 (.slice oa k oc)), (lk l d s (((zs : Nat) : Int)) (((k : Nat) : Int)) false)]) := (Has.cons_ (hS137.has (i := 1) rfl) (Has.cons_ (hS137.has (i := 2) rfl) (Has.cons_ (hS137.has (i := 4) rfl) Has.nil_)))
   refine ⟨hH30, ?_⟩
   refine h_done (by kernel_rfl) ?_
   refine only_n ?_
   refine x_tn ?_
   refine wp_ret ?_
   refine j_r ?_
   refine l_defer cb46 (Open1_ok w102 _ e3 _ _ _ _ _ (hS137.give (xs := [(bk blk3 37 (.int .i64 (((e3 : Nat) : Int)))), (bk blk1 43 (.pointer (some ⟨l, 0, none⟩))), (bk blk2 30 (.slice oa k oc))]) [3, 1, 2] rfl (by decide))) ?_
   rintro _ w103 ⟨lv15, ov15, hz15, hnz15, ht31⟩
   have hS138 : St w0 K (fl [(pk d m D2), [(blk1, .cells #[lv15] 43 (0, 0))], [(blk2, .cells #[ov15] 30 (0, 0))], (bk blk3 37 (.int .i64 (((e3 : Nat) : Int)))), (lk l d s (((zs : Nat) : Int)) (((k : Nat) : Int)) false), sm2, sgb, sgo]) w103 := hS137.callL (xs := [(bk blk3 37 (.int .i64 (((e3 : Nat) : Int)))), (bk blk1 43 (.pointer (some ⟨l, 0, none⟩))), (bk blk2 30 (.slice oa k oc))]) (xs' := [(bk blk3 37 (.int .i64 (((e3 : Nat) : Int)))), [(blk1, .cells #[lv15] 43 (0, 0))], [(blk2, .cells #[ov15] 30 (0, 0))]]) (zs := []) [3, 1, 2] rfl (by decide) ht31 rfl rfl
   refine ⟨_, tells_cells3 Try.results19 rfl rfl rfl rfl rfl rfl one43 one30 one37 (St.cell_own (m := 1) rfl rfl _ hS138) (St.cell_own (m := 2) rfl rfl _ hS138) (St.cell_own (m := 3) rfl rfl _ hS138), ?_⟩
   refine ⟨_, rfl, ?_⟩
   have hS139 : St w0 K (fl [(pk d m D2), (lk l d s (((zs : Nat) : Int)) (((k : Nat) : Int)) false), sm2, sgo]) w103 := hS138.pick [0, 4, 5, 7] rfl (by decide)
   have hS140 : St w0 K (fl [(pk d m D2), sm2]) w103 := hS138.pick [0, 5] rfl (by decide)
   subst hk; subst hzs
   by_cases hne_ : e3 = 0
   ·
    obtain rfl := hne_
    obtain ⟨q1, q2⟩ := hz15 rfl
    subst q1; subst q2
    exact ⟨0, D2, sm2, RR, _, OpnS.torn hrd heR hBR hgd htn hst2, hst2.ok, by omega, by omega, hM2, .inr ⟨rfl, l, oa, oc, sgo, rfl, hO, hS139⟩⟩
   have hne : e3 ≠ 0 := by omega
   exact ⟨e3, D2, sm2, RR, _, OpnS.torn hrd heR hBR hgd htn hst2, hst2.ok, by omega, by omega, hM2, .inl ⟨hne, by obtain ⟨q1, q2⟩ := hnz15 hne; subst q1; subst q2; rfl, hS140⟩⟩

end Go.Proofs.Ytdmiklegahdafaa
