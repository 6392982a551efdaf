/- Contracts of functions of the program, each walked once. -/
import Derived.Test.YtdmiklegahdafaaFnP
import Derived.Test.YtdmiklegahdafaaFnU
import Derived.Test.YtdmiklegahdafaaKLim
namespace Go.Proofs.Ytdmiklegahdafaa
open Go Go.RowKit K
namespace FW
theorem mixed : Try.prog.follows .mixedOrders = true := by kernel_rfl
theorem cb12 : callable Try.prog 12 = true := by kernel_rfl
theorem cb16 : callable Try.prog 16 = true := by kernel_rfl
theorem cb19 : callable Try.prog 19 = true := by kernel_rfl
theorem cb25 : callable Try.prog 25 = true := by kernel_rfl
theorem cb26 : callable Try.prog 26 = true := by kernel_rfl
theorem cb27 : callable Try.prog 27 = true := by kernel_rfl
theorem cb29 : callable Try.prog 29 = true := by kernel_rfl
theorem cb33 : callable Try.prog 33 = true := by kernel_rfl
theorem cb34 : callable Try.prog 34 = true := by kernel_rfl
theorem one22 : One Try.prog 22 = true := by kernel_rfl
theorem one56 : One Try.prog 56 = true := by kernel_rfl
theorem ti22 : (Try.prog.info? 22).map (fun i => (i.zero, i.size, i.bytes)) = some (some (.slice none 0 0), 1, 24) := by kernel_rfl
theorem ti5 : (Try.prog.info? 5).map (fun i => (i.zero, i.size, i.bytes)) = some (some (.int .u8 0), 1, 1) := by kernel_rfl
theorem ti56 : (Try.prog.info? 56).map (fun i => (i.zero, i.size, i.bytes)) = some (some (.slice none 0 0), 1, 24) := by kernel_rfl

end FW
open FW
attribute [local irreducible] Go.wpList Go.wpQuiet Go.wpStill Go.wpAny Go.Code.wp
set_option maxRecDepth 10000
set_option maxHeartbeats 8000000
set_option linter.unusedVariables false
set_option linter.unusedSimpArgs false
theorem Open_name (w0 : World) (K : List Nat) (d m : Nat) (D : Dk) (h : Lv D) (sm : Hp) (hM : MapH U8 m none D.F sm) (s : ByteArray) (ls : s.size ≤ 1000000000000) (hs : okName s = false) (hw : D.writes ≤ 1000000000000) (hS0 : St w0 K (fl [[(d, .cells (dkC 0 m D) DT (0, 0))], sm]) w0) :
  Calls Try.prog 19 #[.pointer (some ⟨d, 0, none⟩), .string s] w0 (Ret fun v w' => ∃ sm', MapH U8 m none D.F sm' ∧ v = .tuple #[.pointer none, .slice none 0 0, .int .i64 101] ∧ St w0 K (fl [[(d, .cells (dkC 0 m D) DT (0, 0))], sm']) w') := by
  refine Calls.mono (Open_ok w0 K d m D h.ok sm hM s ls hw hS0) ?_
  rintro _ w' ⟨v, he, e, D1, sm', RR', z, hO, _, _, _, hM1, hh⟩
  obtain ⟨rfl, rfl⟩ := opn_name h hs hO
  rcases hh with ⟨-, hv, hS⟩ | ⟨q, -⟩
  ·
   exact ⟨v, he, sm', hM1, hv, hS⟩
  ·
   cases q
theorem Open_dmg (w0 : World) (K : List Nat) (d m : Nat) (D : Dk) (h : Lv D) (sm : Hp) (hM : MapH U8 m none D.F sm) (s : ByteArray) {R0 : List Nat} {k : Nat} (ha : lookF D.F s = some ⟨s, headL ++ R0, k⟩) (hb : BadR R0) (hw : D.writes ≤ 1000000000000) (hS0 : St w0 K (fl [[(d, .cells (dkC 0 m D) DT (0, 0))], sm]) w0) :
  Calls Try.prog 19 #[.pointer (some ⟨d, 0, none⟩), .string s] w0 (Ret fun v w' => ∃ sm', MapH U8 m none D.F sm' ∧ v = .tuple #[.pointer none, .slice none 0 0, .int .i64 111] ∧ St w0 K (fl [[(d, .cells (dkC 0 m D) DT (0, 0))], sm']) w') := by
  refine Calls.mono (Open_ok w0 K d m D h.ok sm hM s (okName_size (h.file ha).1) hw hS0) ?_
  rintro _ w' ⟨v, he, e, D1, sm', RR', z, hO, _, _, _, hM1, hh⟩
  obtain ⟨rfl, rfl⟩ := opn_dmg h ha hb hO
  rcases hh with ⟨-, hv, hS⟩ | ⟨q, -⟩
  ·
   exact ⟨v, he, sm', hM1, hv, hS⟩
  ·
   cases q
theorem Open_tail (w0 : World) (K : List Nat) (d m : Nat) (D : Dk) (h : Lv D) (sm : Hp) (hM : MapH U8 m none D.F sm) (s : ByteArray) {R0 : List Nat} {k : Nat} (ha : lookF D.F s = some ⟨s, headL ++ R0, k⟩) (ht : TornR R0) (hw : D.writes ≤ 1000000000000) (hS0 : St w0 K (fl [[(d, .cells (dkC 0 m D) DT (0, 0))], sm]) w0) :
  Calls Try.prog 19 #[.pointer (some ⟨d, 0, none⟩), .string s] w0 (Ret fun v w' => ∃ D1 sm' l oa oc sgo, UpA D D1 s (headL ++ R0) (logL noR) (min k 8) 1 ∧ MapH U8 m none D1.F sm' ∧ v = .tuple #[.pointer (some ⟨l, 0, none⟩), .slice oa noR.length oc, .int .i64 0] ∧ GrP R2 56 oa oc noR sgo ∧ St w0 K (fl [[(d, .cells (dkC 0 m D1) DT (0, 0))], sm', [(l, .cells #[.pointer (some ⟨d, 0, none⟩), .string s, .int .i64 ((lg noR).size : Nat), .int .i64 ((lg noR).count : Nat), .bool (lg noR).off] LT (0, 0))], sgo]) w') := by
  refine Calls.mono (Open_ok w0 K d m D h.ok sm hM s (okName_size (h.file ha).1) hw hS0) ?_
  rintro _ w' ⟨v, he, e, D1, sm', RR', z, hO, _, _, _, hM1, hh⟩
  obtain ⟨rfl, rfl, rfl, hu⟩ := opn_tail h ha ht hO
  rcases hh with ⟨q, -⟩ | ⟨-, l, oa, oc, sgo, hv, hG, hS⟩
  ·
   exact absurd rfl q
  ·
   exact ⟨v, he, D1, sm', l, oa, oc, sgo, hu, hM1, hv, hG, hS.pick [0, 2, 1, 3] rfl (by decide)⟩
theorem LAppend_long (w0 : World) (K : List Nat) (d m : Nat) (D : Dk) (h : Lv D) (l : Nat) (RR : List (List (List Nat))) (sm : Hp) (hM : MapH U8 m none D.F sm) (s : ByteArray) {k : Nat} (ha : lookF D.F s = some ⟨s, logL RR, k⟩) (aB : Option Addr) (cB : Nat) (uB : List Value) (B : List (List Nat)) (vB : Hp) (hB : RwV R1 aB cB uB B vB) (oB : Old w0 K vB) (hg : 4096 < B.length ∨ 4194304 < (bodyL B).length) (lB : (bodyL B).length ≤ 1000000000000) (hw : D.writes ≤ 1000000000000) (hz : (logL RR).length ≤ 1000000000000) (hz2 : RR.length ≤ 1000000000000) (hS0 : St w0 K (fl [[(l, .cells #[.pointer (some ⟨d, 0, none⟩), .string s, .int .i64 ((lg RR).size : Nat), .int .i64 ((lg RR).count : Nat), .bool (lg RR).off] LT (0, 0))], [(d, .cells (dkC 0 m D) DT (0, 0))], sm]) w0) :
  Calls Try.prog 27 #[.pointer (some ⟨l, 0, none⟩), .slice aB B.length cB] w0 (Ret fun v w' => ∃ sm', MapH U8 m none D.F sm' ∧ v = .int .i64 110 ∧ St w0 K (fl [[(l, .cells #[.pointer (some ⟨d, 0, none⟩), .string s, .int .i64 ((lg RR).size : Nat), .int .i64 ((lg RR).count : Nat), .bool (lg RR).off] LT (0, 0))], [(d, .cells (dkC 0 m D) DT (0, 0))], sm']) w') := by
  refine Calls.mono (LAppend_ok w0 K d m D h.ok l (lg RR) (by rw [logL_len] at hz; exact hz) hz2 sm hM s (okName_size (h.file ha).1) hw aB cB uB B vB hB oB lB hS0) ?_
  rintro _ w' ⟨v, he, e, z1, D1, sm', hL, hv, hM1, hS⟩
  obtain ⟨rfl, rfl, rfl⟩ := lv_long h hg hL
  exact ⟨v, he, sm', hM1, hv, hS⟩
theorem Size_lv (w0 : World) (K : List Nat) (d m : Nat) (D : Dk) (h : Lv D) (sm : Hp) (hM : MapH U8 m none D.F sm) (s : ByteArray) {B : List Nat} {k : Nat} (ha : lookF D.F s = some ⟨s, B, k⟩) (hS0 : St w0 K (fl [[(d, .cells (dkC 0 m D) DT (0, 0))], sm]) w0) :
  Calls Try.prog 34 #[.pointer (some ⟨d, 0, none⟩), .string s] w0 (Ret fun v w' => v = .tuple #[.int .i64 (B.length : Nat), .int .i64 0] ∧ St w0 K (fl [[(d, .cells (dkC 0 m D) DT (0, 0))], sm]) w') := by
  refine Calls.mono (Size_ok w0 K d m D h.ok sm hM s (okName_size (h.file ha).1) hS0) ?_
  rintro _ w' ⟨v, he, hv, hS⟩
  exact ⟨v, he, by rw [hv, (lv_read h ha).1]; rfl, hS⟩
theorem JournalLimits_ok (w0 : World) :
  Calls Try.prog 8 #[] w0 (Ret fun v w' => v = .bool true ∧ St w0 [] (fl []) w') := by
 refine k_enter (vs := []) Try.func8 rfl Try.ntmps8 rfl ?_
 have hS : St w0 [] (fl []) w0 := St.init w0
 refine wp_seq ?_
 refine k_reg ?_
 refine s_val hS rfl rfl (r_assign rfl .c) ?_
 refine wpList_nil ?_
 refine x_tn ?_
 refine wp_seq ?_
 refine k_reg ?_
 refine s_call rfl rfl rfl (vs := [.int .i64 268435456]) ⟨.c, trivial⟩ cb25 (New_lv w0 268435456 (by omega) ) ?_
 rintro _ w1 ⟨d1, m1, D1, sm1, hN1, rfl, hM1, ht1⟩
 have hS3 : St w0 [] (fl [(pk d1 m1 D1), sm1]) w1 := hS.callL (xs := []) (xs' := []) (zs := [(pk d1 m1 D1), sm1]) [] rfl (by decide) ht1 rfl rfl
 have hS2 : St w0 [] (fl [(pk d1 m1 D1), sm1]) w1 := hS3.pick [0, 1] rfl (by decide)
 have hu1 := hN1.tot
 have hu2 := hN1.len
 have hu3 := hN1.wr
 have hu4 := hN1.room
 refine s_val hS2 rfl rfl (r_move rfl (.t rfl rfl)) ?_
 refine s_val hS2 rfl rfl (r_extract rfl (.t rfl rfl) rfl) ?_
 refine s_val hS2 rfl rfl (r_extract rfl (.t rfl rfl) rfl) ?_
 refine s_val hS2 rfl rfl (r_assign rfl (.t rfl rfl)) ?_
 refine s_val hS2 rfl rfl (r_assign rfl (.t rfl rfl)) ?_
 refine wpList_nil ?_
 refine x_tn ?_
 refine k_reb [(0, .bool false), (1, .pointer (some ⟨d1, 0, none⟩)), (2, .int .i64 0)] ⟨rfl, rfl, rfl, trivial⟩ fun G1 => ?_
 refine wp_seq ?_
 refine wp_seq ?_
 refine k_reg ?_
 refine s_val hS2 rfl rfl (r_move rfl (.t rfl rfl)) ?_
 refine s_call rfl rfl rfl (vs := [.int .i64 0]) ⟨(.t rfl rfl), trivial⟩ cb16 (num_ok w1 0) ?_
 rintro _ w1 ⟨rfl, rfl⟩
 refine s_val hS2 rfl rfl (r_cmp_f rfl rfl (.t rfl rfl) .c (show ¬ (¬ 0 = 0) from by omega)) ?_
 refine s_val hS2 rfl rfl (r_move rfl (.t rfl rfl)) ?_
 refine s_valg hS2 (wanted_of (j := 3) (b := false) (d := 32) rfl rfl rfl rfl) rfl (r_move rfl (.t rfl rfl)) ?_
 refine s_valg hS2 (wanted_of (j := 3) (b := false) (d := 32) rfl rfl rfl rfl) rfl (r_eqnilp rfl Try.underlying33 (.t rfl rfl) .c rfl) ?_
 refine s_val hS2 rfl rfl (r_pick rfl (.t rfl rfl) (.t rfl rfl)) ?_
 refine s_val hS2 rfl rfl (r_move rfl (.t rfl rfl)) ?_
 refine s_callg (wanted_of (j := 7) (b := false) (d := 36) rfl rfl rfl rfl) rfl rfl (vs := []) trivial cb12 (works_ok w1  ) ?_
 rintro _ w2 ⟨rfl, ht2⟩
 have hS4 : St w0 [] (fl [(pk d1 m1 D1), sm1]) w2 := hS2.callL (xs := []) (xs' := []) (zs := []) [] rfl (by decide) ht2 rfl rfl
 refine s_valg hS4 (wanted_of (j := 7) (b := false) (d := 36) rfl rfl rfl rfl) rfl (r_lnot rfl (.t rfl rfl)) ?_
 refine s_val hS4 rfl rfl (r_pick rfl (.t rfl rfl) (.t rfl rfl)) ?_
 refine wpList_nil ?_
 refine x_tn ?_
 refine k_reb [(0, .bool false), (1, .pointer (some ⟨d1, 0, none⟩)), (39, .bool false)] ⟨rfl, rfl, rfl, trivial⟩ fun G2 => ?_
 refine k_f (.t rfl rfl) ?_
 refine wp_skip ?_
 refine x_tn ?_
 refine k_reb [(0, .bool false), (1, .pointer (some ⟨d1, 0, none⟩))] ⟨rfl, rfl, trivial⟩ fun G3 => ?_
 refine wp_seq ?_
 refine k_reg ?_
 refine s_val hS4 rfl rfl (r_move rfl (.t rfl rfl)) ?_
 refine s_call rfl rfl rfl (vs := [.pointer (some ⟨d1, 0, none⟩), .string (⟨#[106]⟩)]) ⟨(.t rfl rfl), .c, trivial⟩ cb19 (Open_new w2 _ d1 m1 D1 hN1.lv sm1 hM1 (⟨#[106]⟩ : ByteArray) (by decide) hN1.none (by omega) (by omega) (by omega) (hS4.give (xs := [(pk d1 m1 D1), sm1]) [0, 1] rfl (by decide))) ?_
 rintro _ w3 ⟨D2, sm2, l1, oa1, oc1, sg1, hup1, hM2, rfl, hO1, ht3⟩
 have hS6 : St w0 [] (fl [(pk d1 m1 D2), sm2, (lq l1 d1 (⟨#[106]⟩) noR), sg1]) w3 := hS4.callL (xs := [(pk d1 m1 D1), sm1]) (xs' := [(pk d1 m1 D2), sm2]) (zs := [(lq l1 d1 (⟨#[106]⟩) noR), sg1]) [0, 1] rfl (by decide) ht3 rfl rfl
 have hS7 : St w0 [] (fl [(pk d1 m1 D2), (lq l1 d1 (⟨#[106]⟩) noR), sm2, sg1]) w3 := hS6.pick [0, 2, 1, 3] rfl (by decide)
 have hnr1 : noR.length = 0 := rfl
 have hnr2 : (logL noR).length = 8 := rfl
 have hat1 := (hup1.ne ⟨#[107]⟩ (by decide)).trans hN1.none
 have hat2 := (hup1.ne ⟨#[109]⟩ (by decide)).trans hN1.none
 have hu5 := hup1.tot
 have hu6 := hup1.wr
 have hu7 := hup1.room
 have hu8 := hup1.len
 have hnl1 : ([] : List Nat).length = 0 := rfl
 refine s_val hS7 rfl rfl (r_move rfl (.t rfl rfl)) ?_
 refine s_val hS7 rfl rfl (r_extract rfl (.t rfl rfl) rfl) ?_
 refine s_val hS7 rfl rfl (r_extract rfl (.t rfl rfl) rfl) ?_
 refine s_val hS7 rfl rfl (r_extract rfl (.t rfl rfl) rfl) ?_
 refine s_val hS7 rfl rfl (r_assign rfl (.t rfl rfl)) ?_
 refine s_val hS7 rfl rfl (r_assign rfl (.t rfl rfl)) ?_
 refine s_val hS7 rfl rfl (r_assign rfl (.t rfl rfl)) ?_
 refine wpList_nil ?_
 refine x_tn ?_
 refine k_reb [(0, .bool false), (1, .pointer (some ⟨d1, 0, none⟩)), (3, .pointer (some ⟨l1, 0, none⟩)), (5, .int .i64 0)] ⟨rfl, rfl, rfl, rfl, trivial⟩ fun G4 => ?_
 refine wp_seq ?_
 refine wp_seq ?_
 refine k_reg ?_
 refine s_val hS7 rfl rfl (r_move rfl (.t rfl rfl)) ?_
 refine s_call rfl rfl rfl (vs := [.int .i64 0]) ⟨(.t rfl rfl), trivial⟩ cb16 (num_ok w3 0) ?_
 rintro _ w3 ⟨rfl, rfl⟩
 refine s_val hS7 rfl rfl (r_cmp_f rfl rfl (.t rfl rfl) .c (show ¬ (¬ 0 = 0) from by omega)) ?_
 refine s_val hS7 rfl rfl (r_move rfl (.t rfl rfl)) ?_
 refine s_valg hS7 (wanted_of (j := 3) (b := false) (d := 49) rfl rfl rfl rfl) rfl (r_move rfl (.t rfl rfl)) ?_
 refine s_valg hS7 (wanted_of (j := 3) (b := false) (d := 49) rfl rfl rfl rfl) rfl (r_eqnilp rfl Try.underlying43 (.t rfl rfl) .c rfl) ?_
 refine s_val hS7 rfl rfl (r_pick rfl (.t rfl rfl) (.t rfl rfl)) ?_
 refine wpList_nil ?_
 refine x_tn ?_
 refine k_reb [(0, .bool false), (1, .pointer (some ⟨d1, 0, none⟩)), (3, .pointer (some ⟨l1, 0, none⟩)), (52, .bool false)] ⟨rfl, rfl, rfl, rfl, trivial⟩ fun G5 => ?_
 refine k_f (.t rfl rfl) ?_
 refine wp_skip ?_
 refine x_tn ?_
 refine k_reb [(0, .bool false), (1, .pointer (some ⟨d1, 0, none⟩)), (3, .pointer (some ⟨l1, 0, none⟩))] ⟨rfl, rfl, rfl, trivial⟩ fun G6 => ?_
 refine wp_seq ?_
 refine k_reg ?_
 refine s_make rfl rfl rfl Try.underlying22 ti5 .c .c (len := 4194301) (cap := 4194301) rfl rfl (by omega) (by omega) (by omega) hS7 fun blk1 w4 hb1 hB1 hS8 => ?_
 have hS9 : St w0 [] (fl [(pk d1 m1 D2), (lq l1 d1 (⟨#[106]⟩) noR), [(blk1, .cells (encN .u8 (List.replicate 4194301 0)) 5 (0, 0))], sm2, sg1]) w4 := hS8.push 2 rfl
 obtain ⟨Z, hZ⟩ : ∃ Z, Z = List.replicate 4194301 0 := ⟨_, rfl⟩
 have hZl : Z.length = 4194301 := by rw [hZ]; exact List.length_replicate
 have hZf : ∀ x ∈ Z, x ≤ 255 := fun x hx => by rw [hZ] at hx; rw [List.eq_of_mem_replicate hx]; exact Nat.zero_le _
 rw [← hZ] at hS9
 refine s_val hS9 rfl rfl (r_assign rfl (.t rfl rfl)) ?_
 refine wpList_nil ?_
 refine x_tn ?_
 refine k_reb [(0, .bool false), (1, .pointer (some ⟨d1, 0, none⟩)), (3, .pointer (some ⟨l1, 0, none⟩)), (6, .slice (some ⟨blk1, 0, none⟩) 4194301 4194301)] ⟨rfl, rfl, rfl, rfl, trivial⟩ fun G7 => ?_
 refine wp_seq ?_
 refine k_reg ?_
 refine s_makeV rfl rfl rfl Try.underlying56 ti22 .c .c (len := 4097) (cap := 4097) rfl rfl (by omega) (by omega) (by omega) hS9 fun blk2 w5 LL us1 hLL1 hw1 hS10 => ?_
 obtain ⟨sg2, hw2, hS11⟩ : ∃ sg_ : Hp, RwV R1 (some ⟨blk2, 0, none⟩) 4097 us1 LL sg_ ∧ St w0 [] (fl [(pk d1 m1 D2), (lq l1 d1 (⟨#[106]⟩) noR), [(blk1, .cells (encN .u8 Z) 5 (0, 0))], sm2, sg1, sg_]) w5 := ⟨_, hw1, hS10.push 5 rfl⟩
 have hLl1 : LL.length = 4097 := by rw [hLL1]; exact List.length_replicate
 refine s_val hS11 rfl rfl (r_assign rfl (.t rfl rfl)) ?_
 refine wpList_nil ?_
 refine x_tn ?_
 refine k_reb [(0, .bool false), (1, .pointer (some ⟨d1, 0, none⟩)), (3, .pointer (some ⟨l1, 0, none⟩)), (6, .slice (some ⟨blk1, 0, none⟩) 4194301 4194301), (7, .slice (some ⟨blk2, 0, none⟩) LL.length 4097)] ⟨rfl, rfl, rfl, rfl, rfl, trivial⟩ fun G8 => ?_
 refine wp_seq ?_
 refine k_reg ?_
 refine s_val hS11 rfl rfl (r_move rfl (.t rfl rfl)) ?_
 refine s_call rfl rfl rfl (vs := [.pointer (some ⟨d1, 0, none⟩)]) ⟨(.t rfl rfl), trivial⟩ cb33 (Writes_ok w5 _ d1 m1 D2 hup1.lv.ok sm2 hM2 (hS11.give (xs := [(pk d1 m1 D2), sm2]) [0, 3] rfl (by decide))) ?_
 rintro _ w6 ⟨rfl, ht4⟩
 have hS12 : St w0 [] (fl [(pk d1 m1 D2), (lq l1 d1 (⟨#[106]⟩) noR), [(blk1, .cells (encN .u8 Z) 5 (0, 0))], sm2, sg1, sg2]) w6 := hS11.callL (xs := [(pk d1 m1 D2), sm2]) (xs' := [(pk d1 m1 D2), sm2]) (zs := []) [0, 3] rfl (by decide) ht4 rfl rfl
 refine s_val hS12 rfl rfl (r_assign rfl (.t rfl rfl)) ?_
 refine wpList_nil ?_
 refine x_tn ?_
 refine k_reb [(0, .bool false), (1, .pointer (some ⟨d1, 0, none⟩)), (3, .pointer (some ⟨l1, 0, none⟩)), (6, .slice (some ⟨blk1, 0, none⟩) 4194301 4194301), (7, .slice (some ⟨blk2, 0, none⟩) LL.length 4097), (8, .int .i64 (((D2.writes : Nat) : Int)))] ⟨rfl, rfl, rfl, rfl, rfl, rfl, trivial⟩ fun G9 => ?_
 refine wp_seq ?_
 refine wp_seq ?_
 refine k_reg ?_
 refine s_val hS12 rfl rfl (r_move rfl (.t rfl rfl)) ?_
 refine s_val hS12 rfl rfl (r_move rfl (.t rfl rfl)) ?_
 refine s_litV rfl rfl rfl Try.underlying56 ti22 rfl (vs := [(0, .slice (some ⟨blk1, 0, none⟩) 4194301 4194301)]) ⟨rfl, (.t rfl rfl), trivial⟩ (L := [.slice (some ⟨blk1, 0, none⟩) 4194301 4194301]) rfl (by decide) rfl hS12 fun blk3 w7 hb3 hB3 hS13 => ?_
 have hS14 : St w0 [] (fl [(pk d1 m1 D2), (lq l1 d1 (⟨#[106]⟩) noR), [(blk1, .cells (encN .u8 Z) 5 (0, 0))], (bk blk3 22 (.slice (some ⟨blk1, 0, none⟩) 4194301 4194301)), sm2, sg1, sg2]) w7 := hS13.push 3 rfl
 obtain ⟨sg3, hG1, hS15⟩ : ∃ sg3 : Hp, Gr .u8 5 (some ⟨blk1, 0, none⟩) 4194301 Z sg3 ∧ St w0 [] (fl [(pk d1 m1 D2), (lq l1 d1 (⟨#[106]⟩) noR), (bk blk3 22 (.slice (some ⟨blk1, 0, none⟩) 4194301 4194301)), sm2, sg1, sg2, sg3]) w7 := ⟨_, Gr.of_row (by first | rfl | (simp; done) | omega), hS14.pick [0, 1, 3, 4, 5, 6, 2] rfl (by decide)⟩
 obtain ⟨sg4, us2, hX1, hx1, hx2, hS16⟩ : ∃ (sg4 : Hp) (us2 : List Value), RwV R1 (some ⟨blk3, 0, none⟩) 1 us2 ([Z] : List (List Nat)) sg4 ∧ Sl .u8 (some ⟨blk1, 0, none⟩) 4194301 Z sg4 ∧ Sl .u8 (some ⟨blk1, 0, none⟩) 4194301 Z sg4 ∧ St w0 [] (fl [(pk d1 m1 D2), (lq l1 d1 (⟨#[106]⟩) noR), sm2, sg1, sg2, sg4]) w7 := ⟨_, [.slice (some ⟨blk1, 0, none⟩) 4194301 4194301], ⟨(SlV.lit (T := 22) (f := (0, 0)) (by simp) (by simp)).mono (fun p hp => by simp at hp; simp [hp]), ⟨⟨_, _, (by first | rfl | (congr 1; done) | (congr 1; first | omega | (simp; done))), ((hG1.sl (by omega) hZf)).mono (fun p hp => by simp [List.mem_append, hp])⟩, trivial⟩⟩, ((hG1.sl (by omega) hZf)).mono (fun p hp => by simp [List.mem_append, hp]), ((hG1.sl (by omega) hZf)).mono (fun p hp => by simp [List.mem_append, hp]), (hS15.merge (L' := [(pk d1 m1 D2), (lq l1 d1 (⟨#[106]⟩) noR), ((bk blk3 22 (.slice (some ⟨blk1, 0, none⟩) 4194301 4194301)) ++ sg3), sm2, sg1, sg2, []]) 2 6 rfl rfl rfl rfl).pick [0, 1, 3, 4, 5, 2] rfl (by decide)⟩
 have hbz : (bodyL (([Z] : List (List Nat)))).length = 4 + Z.length := bodyL_one Z
 refine s_call rfl rfl rfl (vs := [.pointer (some ⟨l1, 0, none⟩), .slice (some ⟨blk3, 0, none⟩) 1 1]) ⟨(.t rfl rfl), (.t rfl rfl), trivial⟩ cb27 (LAppend_long w7 _ d1 m1 D2 hup1.lv l1 noR sm2 hM2 (⟨#[106]⟩ : ByteArray) hup1.at_ (some ⟨blk3, 0, none⟩) 1 _ (([Z] : List (List Nat))) sg4 hX1 (Old.of_piece (i := 5) (xs := [(lq l1 d1 (⟨#[106]⟩) noR), (pk d1 m1 D2), sm2]) [1, 0, 2] hS16 rfl rfl (by decide)) (.inr (by omega)) (by omega) (by omega) (by omega) (by omega) (hS16.give (xs := [(lq l1 d1 (⟨#[106]⟩) noR), (pk d1 m1 D2), sm2]) [1, 0, 2] rfl (by decide))) ?_
 rintro _ w8 ⟨sm3, hM3, rfl, ht5⟩
 have hS17 : St w0 [] (fl [(pk d1 m1 D2), (lq l1 d1 (⟨#[106]⟩) noR), sm3, sg1, sg2, sg4]) w8 := hS16.callL (xs := [(lq l1 d1 (⟨#[106]⟩) noR), (pk d1 m1 D2), sm2]) (xs' := [(lq l1 d1 (⟨#[106]⟩) noR), (pk d1 m1 D2), sm3]) (zs := []) [1, 0, 2] rfl (by decide) ht5 rfl rfl
 refine s_call rfl rfl rfl (vs := [.int .i64 110]) ⟨(.t rfl rfl), trivial⟩ cb16 (num_ok w8 110) ?_
 rintro _ w8 ⟨rfl, rfl⟩
 refine s_val hS17 rfl rfl (r_cmp_f rfl rfl (.t rfl rfl) .c (show ¬ (¬ 110 = 110) from by omega)) ?_
 refine s_val hS17 rfl rfl (r_move rfl (.t rfl rfl)) ?_
 refine s_valg hS17 (wanted_of (j := 6) (b := false) (d := 63) rfl rfl rfl rfl) rfl (r_move rfl (.t rfl rfl)) ?_
 refine s_valg hS17 (wanted_of (j := 6) (b := false) (d := 63) rfl rfl rfl rfl) rfl (r_move rfl (.t rfl rfl)) ?_
 have hbl : (bodyL LL).length = 4 * 4097 := by rw [hLL1, bodyL_nils]
 refine s_callg (wanted_of (j := 6) (b := false) (d := 63) rfl rfl rfl rfl) rfl rfl (vs := [.pointer (some ⟨l1, 0, none⟩), .slice (some ⟨blk2, 0, none⟩) LL.length 4097]) ⟨(.t rfl rfl), (.t rfl rfl), trivial⟩ cb27 (LAppend_long w8 _ d1 m1 D2 hup1.lv l1 noR sm3 hM3 (⟨#[106]⟩ : ByteArray) hup1.at_ (some ⟨blk2, 0, none⟩) 4097 _ LL sg2 hw2 (Old.of_piece (i := 4) (xs := [(lq l1 d1 (⟨#[106]⟩) noR), (pk d1 m1 D2), sm3]) [1, 0, 2] hS17 rfl rfl (by decide)) (.inl (by omega)) (by omega) (by omega) (by omega) (by omega) (hS17.give (xs := [(lq l1 d1 (⟨#[106]⟩) noR), (pk d1 m1 D2), sm3]) [1, 0, 2] rfl (by decide))) ?_
 rintro _ w9 ⟨sm4, hM4, rfl, ht6⟩
 have hS18 : St w0 [] (fl [(pk d1 m1 D2), (lq l1 d1 (⟨#[106]⟩) noR), sm4, sg1, sg2, sg4]) w9 := hS17.callL (xs := [(lq l1 d1 (⟨#[106]⟩) noR), (pk d1 m1 D2), sm3]) (xs' := [(lq l1 d1 (⟨#[106]⟩) noR), (pk d1 m1 D2), sm4]) (zs := []) [1, 0, 2] rfl (by decide) ht6 rfl rfl
 refine s_callg (wanted_of (j := 6) (b := false) (d := 63) rfl rfl rfl rfl) rfl rfl (vs := [.int .i64 110]) ⟨(.t rfl rfl), trivial⟩ cb16 (num_ok w9 110) ?_
 rintro _ w9 ⟨rfl, rfl⟩
 refine s_valg hS18 (wanted_of (j := 6) (b := false) (d := 63) rfl rfl rfl rfl) rfl (r_cmp_f rfl rfl (.t rfl rfl) .c (show ¬ (¬ 110 = 110) from by omega)) ?_
 refine s_val hS18 rfl rfl (r_pick rfl (.t rfl rfl) (.t rfl rfl)) ?_
 refine s_val hS18 rfl rfl (r_move rfl (.t rfl rfl)) ?_
 refine s_valg hS18 (wanted_of (j := 13) (b := false) (d := 70) rfl rfl rfl rfl) rfl (r_move rfl (.t rfl rfl)) ?_
 refine s_callg (wanted_of (j := 13) (b := false) (d := 70) rfl rfl rfl rfl) rfl rfl (vs := [.pointer (some ⟨d1, 0, none⟩)]) ⟨(.t rfl rfl), trivial⟩ cb33 (Writes_ok w9 _ d1 m1 D2 hup1.lv.ok sm4 hM4 (hS18.give (xs := [(pk d1 m1 D2), sm4]) [0, 2] rfl (by decide))) ?_
 rintro _ w10 ⟨rfl, ht7⟩
 have hS19 : St w0 [] (fl [(pk d1 m1 D2), (lq l1 d1 (⟨#[106]⟩) noR), sm4, sg1, sg2, sg4]) w10 := hS18.callL (xs := [(pk d1 m1 D2), sm4]) (xs' := [(pk d1 m1 D2), sm4]) (zs := []) [0, 2] rfl (by decide) ht7 rfl rfl
 refine s_valg hS19 (wanted_of (j := 13) (b := false) (d := 70) rfl rfl rfl rfl) rfl (r_move rfl (.t rfl rfl)) ?_
 refine s_valg hS19 (wanted_of (j := 13) (b := false) (d := 70) rfl rfl rfl rfl) rfl (r_cmp_f rfl rfl (.t rfl rfl) (.t rfl rfl) (show ¬ (¬ ((D2.writes : Nat) : Int) = ((D2.writes : Nat) : Int)) from by omega)) ?_
 refine s_val hS19 rfl rfl (r_pick rfl (.t rfl rfl) (.t rfl rfl)) ?_
 refine s_val hS19 rfl rfl (r_move rfl (.t rfl rfl)) ?_
 refine s_valg hS19 (wanted_of (j := 19) (b := false) (d := 76) rfl rfl rfl rfl) rfl (r_move rfl (.t rfl rfl)) ?_
 refine s_callg (wanted_of (j := 19) (b := false) (d := 76) rfl rfl rfl rfl) rfl rfl (vs := [.pointer (some ⟨l1, 0, none⟩)]) ⟨(.t rfl rfl), trivial⟩ cb29 (LSize_ok w10 _ l1 d1 (⟨#[106]⟩ : ByteArray) (lg noR) (hS19.give (xs := [(lq l1 d1 (⟨#[106]⟩) noR)]) [1] rfl (by decide))) ?_
 rintro _ w11 ⟨rfl, ht8⟩
 have hS20 : St w0 [] (fl [(pk d1 m1 D2), (lq l1 d1 (⟨#[106]⟩) noR), sm4, sg1, sg2, sg4]) w11 := hS19.callL (xs := [(lq l1 d1 (⟨#[106]⟩) noR)]) (xs' := [(lq l1 d1 (⟨#[106]⟩) noR)]) (zs := []) [1] rfl (by decide) ht8 rfl rfl
 have hzq1 : (lg noR).size = (logL noR).length := (logL_len _).symm
 refine s_valg hS20 (wanted_of (j := 19) (b := false) (d := 76) rfl rfl rfl rfl) rfl (r_cmp_f rfl rfl (.t rfl rfl) .c (show ¬ (¬ (((lg noR).size : Nat) : Int) = 8) from by omega)) ?_
 refine s_val hS20 rfl rfl (r_pick rfl (.t rfl rfl) (.t rfl rfl)) ?_
 refine wpList_nil ?_
 refine x_tn ?_
 refine k_reb [(0, .bool false), (1, .pointer (some ⟨d1, 0, none⟩)), (3, .pointer (some ⟨l1, 0, none⟩)), (6, .slice (some ⟨blk1, 0, none⟩) 4194301 4194301), (7, .slice (some ⟨blk2, 0, none⟩) LL.length 4097), (80, .bool false)] ⟨rfl, rfl, rfl, rfl, rfl, rfl, trivial⟩ fun G10 => ?_
 refine k_f (.t rfl rfl) ?_
 refine wp_skip ?_
 refine x_tn ?_
 refine k_reb [(0, .bool false), (1, .pointer (some ⟨d1, 0, none⟩)), (3, .pointer (some ⟨l1, 0, none⟩)), (6, .slice (some ⟨blk1, 0, none⟩) 4194301 4194301), (7, .slice (some ⟨blk2, 0, none⟩) LL.length 4097)] ⟨rfl, rfl, rfl, rfl, rfl, trivial⟩ fun G11 => ?_
 refine wp_seq ?_
 refine wp_seq ?_
 refine k_reg ?_
 refine s_val hS20 rfl rfl (r_move rfl (.t rfl rfl)) ?_
 refine s_val hS20 rfl rfl (r_move rfl (.t rfl rfl)) ?_
 have hq1 := (hx1).le
 have hx3 : Sl .u8 (some ⟨blk1, 0, none⟩) 4194301 (Z.take 4194300) sg4 := hx1.take_ (by omega) (by omega) (by omega)
 have hn1 : (Z.take 4194300).length = 4194300 := by rw [List.length_take]; omega
 refine s_val hS20 rfl rfl (Rn.asSl (ad' := (some ⟨blk1, 0, none⟩)) (p' := (Z.take 4194300).length) (q' := 4194301) (by simp [cutA]) (by omega) (by omega) (r_cutl rfl Try.underlying22 ti5 (.t rfl rfl) hx1 hZl .n (.s .c) .n (lw := 0) (hh := 4194300) (m := 4194301) (by omega) (by omega) (by omega) (by omega))) ?_
 have hbz1 : (bodyL [Z.take 4194300]).length = 4 + (Z.take 4194300).length := bodyL_one _
 have hg1 : goodR [Z.take 4194300] := ⟨by show 1 ≤ 4096; decide, by omega⟩
 refine s_litV rfl rfl rfl Try.underlying56 ti22 rfl (vs := [(0, .slice (some ⟨blk1, 0, none⟩) ((Z.take 4194300).length) 4194301)]) ⟨rfl, (.t rfl rfl), trivial⟩ (L := [.slice (some ⟨blk1, 0, none⟩) ((Z.take 4194300).length) 4194301]) rfl (by decide) rfl hS20 fun blk4 w12 hb4 hB4 hS21 => ?_
 have hS22 : St w0 [] (fl [(pk d1 m1 D2), (lq l1 d1 (⟨#[106]⟩) noR), (bk blk4 22 (.slice (some ⟨blk1, 0, none⟩) ((Z.take 4194300).length) 4194301)), sm4, sg1, sg2, sg4]) w12 := hS21.push 2 rfl
 obtain ⟨sg5, us3, hX2, hx4, hx5, hx6, hS23⟩ : ∃ (sg5 : Hp) (us3 : List Value), RwV R1 (some ⟨blk4, 0, none⟩) 1 us3 ([(Z.take 4194300)] : List (List Nat)) sg5 ∧ Sl .u8 (some ⟨blk1, 0, none⟩) 4194301 Z sg5 ∧ Sl .u8 (some ⟨blk1, 0, none⟩) 4194301 Z sg5 ∧ Sl .u8 (some ⟨blk1, 0, none⟩) 4194301 (Z.take 4194300) sg5 ∧ St w0 [] (fl [(pk d1 m1 D2), (lq l1 d1 (⟨#[106]⟩) noR), sm4, sg1, sg2, sg5]) w12 := ⟨_, [.slice (some ⟨blk1, 0, none⟩) ((Z.take 4194300).length) 4194301], ⟨(SlV.lit (T := 22) (f := (0, 0)) (by simp) (by simp)).mono (fun p hp => by simp at hp; simp [hp]), ⟨⟨_, _, (by first | rfl | (congr 1; done) | (congr 1; first | omega | (simp; done))), (hx3).mono (fun p hp => by simp [List.mem_append, hp])⟩, trivial⟩⟩, (hx1).mono (fun p hp => by simp [List.mem_append, hp]), (hx1).mono (fun p hp => by simp [List.mem_append, hp]), (hx3).mono (fun p hp => by simp [List.mem_append, hp]), (hS22.merge (L' := [(pk d1 m1 D2), (lq l1 d1 (⟨#[106]⟩) noR), ((bk blk4 22 (.slice (some ⟨blk1, 0, none⟩) ((Z.take 4194300).length) 4194301)) ++ sg4), sm4, sg1, sg2, []]) 2 6 rfl rfl rfl rfl).pick [0, 1, 3, 4, 5, 2] rfl (by decide)⟩
 refine s_call rfl rfl rfl (vs := [.pointer (some ⟨l1, 0, none⟩), .slice (some ⟨blk4, 0, none⟩) 1 1]) ⟨(.t rfl rfl), (.t rfl rfl), trivial⟩ cb27 (LAppend_lv w12 _ d1 m1 D2 hup1.lv l1 noR sm4 hM4 (⟨#[106]⟩ : ByteArray) hup1.at_ (some ⟨blk4, 0, none⟩) 1 _ (([(Z.take 4194300)] : List (List Nat))) sg5 hX2 (Old.of_piece (i := 5) (xs := [(lq l1 d1 (⟨#[106]⟩) noR), (pk d1 m1 D2), sm4]) [1, 0, 2] hS23 rfl rfl (by decide)) hg1 (by omega) (by omega) (by omega) (by omega) (hS23.give (xs := [(lq l1 d1 (⟨#[106]⟩) noR), (pk d1 m1 D2), sm4]) [1, 0, 2] rfl (by decide))) ?_
 rintro _ w13 ⟨D3, sm5, hup2, rfl, hM5, ht9⟩
 have hS24 : St w0 [] (fl [(pk d1 m1 D3), [(l1, .cells #[.pointer (some ⟨d1, 0, none⟩), .string (⟨#[106]⟩), .int .i64 ((((lg (noR ++ [(([(Z.take 4194300)] : List (List Nat)))])).size : Nat) : Int)), .int .i64 ((((lg (noR ++ [(([(Z.take 4194300)] : List (List Nat)))])).count : Nat) : Int)), .bool ((lg (noR ++ [(([(Z.take 4194300)] : List (List Nat)))])).off)] 92 (0, 0))], sm5, sg1, sg2, sg5]) w13 := hS23.callL (xs := [(lq l1 d1 (⟨#[106]⟩) noR), (pk d1 m1 D2), sm4]) (xs' := [[(l1, .cells #[.pointer (some ⟨d1, 0, none⟩), .string (⟨#[106]⟩), .int .i64 ((((lg (noR ++ [(([(Z.take 4194300)] : List (List Nat)))])).size : Nat) : Int)), .int .i64 ((((lg (noR ++ [(([(Z.take 4194300)] : List (List Nat)))])).count : Nat) : Int)), .bool ((lg (noR ++ [(([(Z.take 4194300)] : List (List Nat)))])).off)] 92 (0, 0))], (pk d1 m1 D3), sm5]) (zs := []) [1, 0, 2] rfl (by decide) ht9 rfl rfl
 have hat3 := (hup2.ne ⟨#[107]⟩ (by decide)).trans hat1
 have hat4 := (hup2.ne ⟨#[109]⟩ (by decide)).trans hat2
 have hu9 := hup2.tot
 have hu10 := hup2.wr
 have hu11 := hup2.room
 have hu12 := hup2.same
 have hln1 := logL_len_snoc noR (([(Z.take 4194300)] : List (List Nat)))
 have hlm1 : (noR ++ [(([(Z.take 4194300)] : List (List Nat)))]).length = noR.length + 1 := by rw [List.length_append]; rfl
 refine s_call rfl rfl rfl (vs := [.int .i64 0]) ⟨(.t rfl rfl), trivial⟩ cb16 (num_ok w13 0) ?_
 rintro _ w13 ⟨rfl, rfl⟩
 refine s_val hS24 rfl rfl (r_cmp_f rfl rfl (.t rfl rfl) .c (show ¬ (¬ 0 = 0) from by omega)) ?_
 refine s_val hS24 rfl rfl (r_move rfl (.t rfl rfl)) ?_
 refine s_valg hS24 (wanted_of (j := 7) (b := false) (d := 88) rfl rfl rfl rfl) rfl (r_move rfl (.t rfl rfl)) ?_
 refine s_valg hS24 (wanted_of (j := 7) (b := false) (d := 88) rfl rfl rfl rfl) rfl (r_move rfl (.t rfl rfl)) ?_
 have hw3 := hw2.take (n := 4096)
 have hq2 := (hw2).le
 refine s_valg hS24 (wanted_of (j := 7) (b := false) (d := 88) rfl rfl rfl rfl) rfl (Rn.asSl (ad' := (some ⟨blk2, 0, none⟩)) (p' := (LL.take 4096).length) (q' := 4097) rfl (by rw [List.length_take]; omega) rfl (r_cut0 rfl Try.underlying56 ti22 (.t rfl rfl) (hh := 4096) (.s .c) .n (by omega) (by first | omega | exact Nat.le_refl _))) ?_
 have hbl2 : (bodyL (LL.take 4096)).length = 16384 := by rw [hLL1, List.take_replicate, bodyL_nils]; omega
 have hll2 : (LL.take 4096).length = 4096 := by rw [List.length_take]; omega
 have hg2 : goodR (LL.take 4096) := ⟨by omega, by omega⟩
 have hg3 : goodR [] := ⟨by decide, by decide⟩
 have hb0 : (bodyL []).length = 0 := rfl
 refine s_callg (wanted_of (j := 7) (b := false) (d := 88) rfl rfl rfl rfl) rfl rfl (vs := [.pointer (some ⟨l1, 0, none⟩), .slice (some ⟨blk2, 0, none⟩) ((LL.take 4096).length) 4097]) ⟨(.t rfl rfl), (.t rfl rfl), trivial⟩ cb27 (LAppend_lv w13 _ d1 m1 D3 hup2.lv l1 (noR ++ [(([(Z.take 4194300)] : List (List Nat)))]) sm5 hM5 (⟨#[106]⟩ : ByteArray) hup2.at_ (some ⟨blk2, 0, none⟩) 4097 _ (LL.take 4096) sg2 hw3 (Old.of_piece (i := 4) (xs := [[(l1, .cells #[.pointer (some ⟨d1, 0, none⟩), .string (⟨#[106]⟩), .int .i64 ((((lg (noR ++ [(([(Z.take 4194300)] : List (List Nat)))])).size : Nat) : Int)), .int .i64 ((((lg (noR ++ [(([(Z.take 4194300)] : List (List Nat)))])).count : Nat) : Int)), .bool ((lg (noR ++ [(([(Z.take 4194300)] : List (List Nat)))])).off)] 92 (0, 0))], (pk d1 m1 D3), sm5]) [1, 0, 2] hS24 rfl rfl (by decide)) hg2 (by omega) (by omega) (by omega) (by omega) (hS24.give (xs := [[(l1, .cells #[.pointer (some ⟨d1, 0, none⟩), .string (⟨#[106]⟩), .int .i64 ((((lg (noR ++ [(([(Z.take 4194300)] : List (List Nat)))])).size : Nat) : Int)), .int .i64 ((((lg (noR ++ [(([(Z.take 4194300)] : List (List Nat)))])).count : Nat) : Int)), .bool ((lg (noR ++ [(([(Z.take 4194300)] : List (List Nat)))])).off)] 92 (0, 0))], (pk d1 m1 D3), sm5]) [1, 0, 2] rfl (by decide))) ?_
 rintro _ w14 ⟨D4, sm6, hup3, rfl, hM6, ht10⟩
 have hS25 : St w0 [] (fl [(pk d1 m1 D4), [(l1, .cells #[.pointer (some ⟨d1, 0, none⟩), .string (⟨#[106]⟩), .int .i64 ((((lg ((noR ++ [(([(Z.take 4194300)] : List (List Nat)))]) ++ [(LL.take 4096)])).size : Nat) : Int)), .int .i64 ((((lg ((noR ++ [(([(Z.take 4194300)] : List (List Nat)))]) ++ [(LL.take 4096)])).count : Nat) : Int)), .bool ((lg ((noR ++ [(([(Z.take 4194300)] : List (List Nat)))]) ++ [(LL.take 4096)])).off)] 92 (0, 0))], sm6, sg1, sg2, sg5]) w14 := hS24.callL (xs := [[(l1, .cells #[.pointer (some ⟨d1, 0, none⟩), .string (⟨#[106]⟩), .int .i64 ((((lg (noR ++ [(([(Z.take 4194300)] : List (List Nat)))])).size : Nat) : Int)), .int .i64 ((((lg (noR ++ [(([(Z.take 4194300)] : List (List Nat)))])).count : Nat) : Int)), .bool ((lg (noR ++ [(([(Z.take 4194300)] : List (List Nat)))])).off)] 92 (0, 0))], (pk d1 m1 D3), sm5]) (xs' := [[(l1, .cells #[.pointer (some ⟨d1, 0, none⟩), .string (⟨#[106]⟩), .int .i64 ((((lg ((noR ++ [(([(Z.take 4194300)] : List (List Nat)))]) ++ [(LL.take 4096)])).size : Nat) : Int)), .int .i64 ((((lg ((noR ++ [(([(Z.take 4194300)] : List (List Nat)))]) ++ [(LL.take 4096)])).count : Nat) : Int)), .bool ((lg ((noR ++ [(([(Z.take 4194300)] : List (List Nat)))]) ++ [(LL.take 4096)])).off)] 92 (0, 0))], (pk d1 m1 D4), sm6]) (zs := []) [1, 0, 2] rfl (by decide) ht10 rfl rfl
 have hat5 := (hup3.ne ⟨#[107]⟩ (by decide)).trans hat3
 have hat6 := (hup3.ne ⟨#[109]⟩ (by decide)).trans hat4
 have hu13 := hup3.tot
 have hu14 := hup3.wr
 have hu15 := hup3.room
 have hu16 := hup3.same
 have hln2 := logL_len_snoc (noR ++ [(([(Z.take 4194300)] : List (List Nat)))]) (LL.take 4096)
 have hlm2 : ((noR ++ [(([(Z.take 4194300)] : List (List Nat)))]) ++ [(LL.take 4096)]).length = (noR ++ [(([(Z.take 4194300)] : List (List Nat)))]).length + 1 := by rw [List.length_append]; rfl
 refine s_callg (wanted_of (j := 7) (b := false) (d := 88) rfl rfl rfl rfl) rfl rfl (vs := [.int .i64 0]) ⟨(.t rfl rfl), trivial⟩ cb16 (num_ok w14 0) ?_
 rintro _ w14 ⟨rfl, rfl⟩
 refine s_valg hS25 (wanted_of (j := 7) (b := false) (d := 88) rfl rfl rfl rfl) rfl (r_cmp_f rfl rfl (.t rfl rfl) .c (show ¬ (¬ 0 = 0) from by omega)) ?_
 refine s_val hS25 rfl rfl (r_pick rfl (.t rfl rfl) (.t rfl rfl)) ?_
 refine s_val hS25 rfl rfl (r_move rfl (.t rfl rfl)) ?_
 refine s_valg hS25 (wanted_of (j := 15) (b := false) (d := 96) rfl rfl rfl rfl) rfl (r_move rfl (.t rfl rfl)) ?_
 refine s_callg (wanted_of (j := 15) (b := false) (d := 96) rfl rfl rfl rfl) rfl rfl (vs := [.pointer (some ⟨l1, 0, none⟩), .slice none 0 0]) ⟨(.t rfl rfl), .c, trivial⟩ cb27 (LAppend_lv w14 _ d1 m1 D4 hup3.lv l1 ((noR ++ [(([(Z.take 4194300)] : List (List Nat)))]) ++ [(LL.take 4096)]) sm6 hM6 (⟨#[106]⟩ : ByteArray) hup3.at_ none 0 [] [] [] ⟨SlV.nil, trivial⟩ Old.none hg3 (by omega) (by omega) (by omega) (by omega) (hS25.give (xs := [[(l1, .cells #[.pointer (some ⟨d1, 0, none⟩), .string (⟨#[106]⟩), .int .i64 ((((lg ((noR ++ [(([(Z.take 4194300)] : List (List Nat)))]) ++ [(LL.take 4096)])).size : Nat) : Int)), .int .i64 ((((lg ((noR ++ [(([(Z.take 4194300)] : List (List Nat)))]) ++ [(LL.take 4096)])).count : Nat) : Int)), .bool ((lg ((noR ++ [(([(Z.take 4194300)] : List (List Nat)))]) ++ [(LL.take 4096)])).off)] 92 (0, 0))], (pk d1 m1 D4), sm6]) [1, 0, 2] rfl (by decide))) ?_
 rintro _ w15 ⟨D5, sm7, hup4, rfl, hM7, ht11⟩
 have hS26 : St w0 [] (fl [(pk d1 m1 D5), [(l1, .cells #[.pointer (some ⟨d1, 0, none⟩), .string (⟨#[106]⟩), .int .i64 ((((lg (((noR ++ [(([(Z.take 4194300)] : List (List Nat)))]) ++ [(LL.take 4096)]) ++ [([] : List (List Nat))])).size : Nat) : Int)), .int .i64 ((((lg (((noR ++ [(([(Z.take 4194300)] : List (List Nat)))]) ++ [(LL.take 4096)]) ++ [([] : List (List Nat))])).count : Nat) : Int)), .bool ((lg (((noR ++ [(([(Z.take 4194300)] : List (List Nat)))]) ++ [(LL.take 4096)]) ++ [([] : List (List Nat))])).off)] 92 (0, 0))], sm7, sg1, sg2, sg5]) w15 := hS25.callL (xs := [[(l1, .cells #[.pointer (some ⟨d1, 0, none⟩), .string (⟨#[106]⟩), .int .i64 ((((lg ((noR ++ [(([(Z.take 4194300)] : List (List Nat)))]) ++ [(LL.take 4096)])).size : Nat) : Int)), .int .i64 ((((lg ((noR ++ [(([(Z.take 4194300)] : List (List Nat)))]) ++ [(LL.take 4096)])).count : Nat) : Int)), .bool ((lg ((noR ++ [(([(Z.take 4194300)] : List (List Nat)))]) ++ [(LL.take 4096)])).off)] 92 (0, 0))], (pk d1 m1 D4), sm6]) (xs' := [[(l1, .cells #[.pointer (some ⟨d1, 0, none⟩), .string (⟨#[106]⟩), .int .i64 ((((lg (((noR ++ [(([(Z.take 4194300)] : List (List Nat)))]) ++ [(LL.take 4096)]) ++ [([] : List (List Nat))])).size : Nat) : Int)), .int .i64 ((((lg (((noR ++ [(([(Z.take 4194300)] : List (List Nat)))]) ++ [(LL.take 4096)]) ++ [([] : List (List Nat))])).count : Nat) : Int)), .bool ((lg (((noR ++ [(([(Z.take 4194300)] : List (List Nat)))]) ++ [(LL.take 4096)]) ++ [([] : List (List Nat))])).off)] 92 (0, 0))], (pk d1 m1 D5), sm7]) (zs := []) [1, 0, 2] rfl (by decide) ht11 rfl rfl
 have hat7 := (hup4.ne ⟨#[107]⟩ (by decide)).trans hat5
 have hat8 := (hup4.ne ⟨#[109]⟩ (by decide)).trans hat6
 have hu17 := hup4.tot
 have hu18 := hup4.wr
 have hu19 := hup4.room
 have hu20 := hup4.same
 have hln3 := logL_len_snoc ((noR ++ [(([(Z.take 4194300)] : List (List Nat)))]) ++ [(LL.take 4096)]) ([] : List (List Nat))
 have hlm3 : (((noR ++ [(([(Z.take 4194300)] : List (List Nat)))]) ++ [(LL.take 4096)]) ++ [([] : List (List Nat))]).length = ((noR ++ [(([(Z.take 4194300)] : List (List Nat)))]) ++ [(LL.take 4096)]).length + 1 := by rw [List.length_append]; rfl
 refine s_callg (wanted_of (j := 15) (b := false) (d := 96) rfl rfl rfl rfl) rfl rfl (vs := [.int .i64 0]) ⟨(.t rfl rfl), trivial⟩ cb16 (num_ok w15 0) ?_
 rintro _ w15 ⟨rfl, rfl⟩
 refine s_valg hS26 (wanted_of (j := 15) (b := false) (d := 96) rfl rfl rfl rfl) rfl (r_cmp_f rfl rfl (.t rfl rfl) .c (show ¬ (¬ 0 = 0) from by omega)) ?_
 refine s_val hS26 rfl rfl (r_pick rfl (.t rfl rfl) (.t rfl rfl)) ?_
 refine wpList_nil ?_
 refine x_tn ?_
 refine k_reb [(0, .bool false), (1, .pointer (some ⟨d1, 0, none⟩)), (101, .bool false)] ⟨rfl, rfl, rfl, trivial⟩ fun G12 => ?_
 refine k_f (.t rfl rfl) ?_
 refine wp_skip ?_
 refine x_tn ?_
 refine k_reb [(0, .bool false), (1, .pointer (some ⟨d1, 0, none⟩))] ⟨rfl, rfl, trivial⟩ fun G13 => ?_
 refine wp_seq ?_
 refine k_reg ?_
 refine s_val hS26 rfl rfl (r_move rfl (.t rfl rfl)) ?_
 have hl3 : (((noR ++ [(([(Z.take 4194300)] : List (List Nat)))]) ++ [(LL.take 4096)]) ++ [([] : List (List Nat))]).length = 3 := rfl
 have hq0 : ((((noR ++ [(([(Z.take 4194300)] : List (List Nat)))]) ++ [(LL.take 4096)]) ++ [([] : List (List Nat))]).getD 0 []).length = 1 := rfl
 have hq00 : (((((noR ++ [(([(Z.take 4194300)] : List (List Nat)))]) ++ [(LL.take 4096)]) ++ [([] : List (List Nat))]).getD 0 []).getD 0 []).length = 4194300 := (show (Z.take 4194300).length = 4194300 by rw [List.length_take]; omega)
 have hq1 : ((((noR ++ [(([(Z.take 4194300)] : List (List Nat)))]) ++ [(LL.take 4096)]) ++ [([] : List (List Nat))]).getD 1 []).length = 4096 := (show (LL.take 4096).length = 4096 by rw [List.length_take]; omega)
 have hq2 : ((((noR ++ [(([(Z.take 4194300)] : List (List Nat)))]) ++ [(LL.take 4096)]) ++ [([] : List (List Nat))]).getD 2 []).length = 0 := rfl
 refine s_call rfl rfl rfl (vs := [.pointer (some ⟨d1, 0, none⟩), .string (⟨#[106]⟩)]) ⟨(.t rfl rfl), .c, trivial⟩ cb19 (Open_full w15 _ d1 m1 D5 hup4.lv sm7 hM7 (⟨#[106]⟩ : ByteArray) hup4.at_ (goods_snoc (goods_snoc (goods_snoc (fun LL h => nomatch h) hg1) hg2) hg3) (by omega) (hS26.give (xs := [(pk d1 m1 D5), sm7]) [0, 2] rfl (by decide))) ?_
 rintro _ w16 ⟨sm8, l2, oa2, oc2, sg6, hM8, rfl, hO2, ht12⟩
 have hS28 : St w0 [] (fl [(pk d1 m1 D5), [(l1, .cells #[.pointer (some ⟨d1, 0, none⟩), .string (⟨#[106]⟩), .int .i64 ((((lg (((noR ++ [(([(Z.take 4194300)] : List (List Nat)))]) ++ [(LL.take 4096)]) ++ [([] : List (List Nat))])).size : Nat) : Int)), .int .i64 ((((lg (((noR ++ [(([(Z.take 4194300)] : List (List Nat)))]) ++ [(LL.take 4096)]) ++ [([] : List (List Nat))])).count : Nat) : Int)), .bool ((lg (((noR ++ [(([(Z.take 4194300)] : List (List Nat)))]) ++ [(LL.take 4096)]) ++ [([] : List (List Nat))])).off)] 92 (0, 0))], sm8, sg1, sg2, sg5, [(l2, .cells #[.pointer (some ⟨d1, 0, none⟩), .string (⟨#[106]⟩), .int .i64 ((((lg ((((noR ++ [(([(Z.take 4194300)] : List (List Nat)))]) ++ [(LL.take 4096)]) ++ [([] : List (List Nat))]))).size : Nat) : Int)), .int .i64 ((((lg ((((noR ++ [(([(Z.take 4194300)] : List (List Nat)))]) ++ [(LL.take 4096)]) ++ [([] : List (List Nat))]))).count : Nat) : Int)), .bool ((lg ((((noR ++ [(([(Z.take 4194300)] : List (List Nat)))]) ++ [(LL.take 4096)]) ++ [([] : List (List Nat))]))).off)] 92 (0, 0))], sg6]) w16 := hS26.callL (xs := [(pk d1 m1 D5), sm7]) (xs' := [(pk d1 m1 D5), sm8]) (zs := [[(l2, .cells #[.pointer (some ⟨d1, 0, none⟩), .string (⟨#[106]⟩), .int .i64 ((((lg ((((noR ++ [(([(Z.take 4194300)] : List (List Nat)))]) ++ [(LL.take 4096)]) ++ [([] : List (List Nat))]))).size : Nat) : Int)), .int .i64 ((((lg ((((noR ++ [(([(Z.take 4194300)] : List (List Nat)))]) ++ [(LL.take 4096)]) ++ [([] : List (List Nat))]))).count : Nat) : Int)), .bool ((lg ((((noR ++ [(([(Z.take 4194300)] : List (List Nat)))]) ++ [(LL.take 4096)]) ++ [([] : List (List Nat))]))).off)] 92 (0, 0))], sg6]) [0, 2] rfl (by decide) ht12 rfl rfl
 have hS29 : St w0 [] (fl [(pk d1 m1 D5), [(l1, .cells #[.pointer (some ⟨d1, 0, none⟩), .string (⟨#[106]⟩), .int .i64 ((((lg (((noR ++ [(([(Z.take 4194300)] : List (List Nat)))]) ++ [(LL.take 4096)]) ++ [([] : List (List Nat))])).size : Nat) : Int)), .int .i64 ((((lg (((noR ++ [(([(Z.take 4194300)] : List (List Nat)))]) ++ [(LL.take 4096)]) ++ [([] : List (List Nat))])).count : Nat) : Int)), .bool ((lg (((noR ++ [(([(Z.take 4194300)] : List (List Nat)))]) ++ [(LL.take 4096)]) ++ [([] : List (List Nat))])).off)] 92 (0, 0))], [(l2, .cells #[.pointer (some ⟨d1, 0, none⟩), .string (⟨#[106]⟩), .int .i64 ((((lg ((((noR ++ [(([(Z.take 4194300)] : List (List Nat)))]) ++ [(LL.take 4096)]) ++ [([] : List (List Nat))]))).size : Nat) : Int)), .int .i64 ((((lg ((((noR ++ [(([(Z.take 4194300)] : List (List Nat)))]) ++ [(LL.take 4096)]) ++ [([] : List (List Nat))]))).count : Nat) : Int)), .bool ((lg ((((noR ++ [(([(Z.take 4194300)] : List (List Nat)))]) ++ [(LL.take 4096)]) ++ [([] : List (List Nat))]))).off)] 92 (0, 0))], sm8, sg1, sg2, sg5, sg6]) w16 := hS28.pick [0, 1, 6, 2, 3, 4, 5, 7] rfl (by decide)
 refine s_val hS29 rfl rfl (r_move rfl (.t rfl rfl)) ?_
 refine s_val hS29 rfl rfl (r_extract rfl (.t rfl rfl) rfl) ?_
 refine s_val hS29 rfl rfl (r_extract rfl (.t rfl rfl) rfl) ?_
 refine s_val hS29 rfl rfl (r_extract rfl (.t rfl rfl) rfl) ?_
 refine s_val hS29 rfl rfl (r_assign rfl (.t rfl rfl)) ?_
 refine s_val hS29 rfl rfl (r_assign rfl (.t rfl rfl)) ?_
 refine s_val hS29 rfl rfl (r_assign rfl (.t rfl rfl)) ?_
 refine wpList_nil ?_
 refine x_tn ?_
 refine k_reb [(0, .bool false), (1, .pointer (some ⟨d1, 0, none⟩)), (10, .slice oa2 (((((noR ++ [(([(Z.take 4194300)] : List (List Nat)))]) ++ [(LL.take 4096)]) ++ [([] : List (List Nat))])).length) oc2), (11, .int .i64 0)] ⟨rfl, rfl, rfl, rfl, trivial⟩ fun G14 => ?_
 refine wp_seq ?_
 refine wp_seq ?_
 refine k_reg ?_
 refine s_val hS29 rfl rfl (r_move rfl (.t rfl rfl)) ?_
 refine s_call rfl rfl rfl (vs := [.int .i64 0]) ⟨(.t rfl rfl), trivial⟩ cb16 (num_ok w16 0) ?_
 rintro _ w16 ⟨rfl, rfl⟩
 refine s_val hS29 rfl rfl (r_cmp_f rfl rfl (.t rfl rfl) .c (show ¬ (¬ 0 = 0) from by omega)) ?_
 refine s_val hS29 rfl rfl (r_move rfl (.t rfl rfl)) ?_
 refine s_valg hS29 (wanted_of (j := 3) (b := false) (d := 111) rfl rfl rfl rfl) rfl (r_move rfl (.t rfl rfl)) ?_
 refine s_valg hS29 (wanted_of (j := 3) (b := false) (d := 111) rfl rfl rfl rfl) rfl (r_len rfl rfl Try.underlying30 (.t rfl rfl)) ?_
 refine s_valg hS29 (wanted_of (j := 3) (b := false) (d := 111) rfl rfl rfl rfl) rfl (r_cmp_f rfl rfl (.t rfl rfl) .c (show ¬ (¬ ((((((noR ++ [(([(Z.take 4194300)] : List (List Nat)))]) ++ [(LL.take 4096)]) ++ [([] : List (List Nat))])).length : Nat) : Int) = 3) from by omega)) ?_
 refine s_val hS29 rfl rfl (r_pick rfl (.t rfl rfl) (.t rfl rfl)) ?_
 refine s_val hS29 rfl rfl (r_move rfl (.t rfl rfl)) ?_
 refine s_valg hS29 (wanted_of (j := 8) (b := false) (d := 116) rfl rfl rfl rfl) rfl (r_move rfl (.t rfl rfl)) ?_
 obtain ⟨us4, hw4⟩ := hO2.sl R2.mono (by first | omega | (simp; done))
 refine s_valg hS29 (wanted_of (j := 8) (b := false) (d := 116) rfl rfl rfl rfl) rfl (r_ixv (j := 0) rfl Try.underlying30 ti56 (.t rfl rfl) .c hw4.sl (hw4.len) rfl (by omega)) ?_
 obtain ⟨ea1, ec1, us5, hv1, hx7⟩ := hw4.get2 0 (by omega)
 refine s_valg hS29 (wanted_of (j := 8) (b := false) (d := 116) rfl rfl rfl rfl) rfl (r_load rfl one56 (.t rfl rfl) (hw4.sl.cell_p (i := 7) rfl hv1)) ?_
 refine s_valg hS29 (wanted_of (j := 8) (b := false) (d := 116) rfl rfl rfl rfl) rfl (r_ixv (j := 0) rfl Try.underlying56 ti22 (.t rfl rfl) .c hx7.sl (hx7.len) rfl (by omega)) ?_
 obtain ⟨ea2, ec2, hv2, hx8⟩ := hx7.get 0 (by omega)
 refine s_valg hS29 (wanted_of (j := 8) (b := false) (d := 116) rfl rfl rfl rfl) rfl (r_load rfl one22 (.t rfl rfl) (hx7.sl.cell_p (i := 7) rfl hv2)) ?_
 refine s_valg hS29 (wanted_of (j := 8) (b := false) (d := 116) rfl rfl rfl rfl) rfl (r_len rfl rfl Try.underlying22 (.t rfl rfl)) ?_
 refine s_valg hS29 (wanted_of (j := 8) (b := false) (d := 116) rfl rfl rfl rfl) rfl (r_cmp_f rfl rfl (.t rfl rfl) .c (show ¬ (¬ ((((((((((noR ++ [(([(Z.take 4194300)] : List (List Nat)))]) ++ [(LL.take 4096)]) ++ [([] : List (List Nat))]))).getD 0 [])).getD 0 []).length : Nat) : Int) = 4194300) from by omega)) ?_
 refine s_val hS29 rfl rfl (r_pick rfl (.t rfl rfl) (.t rfl rfl)) ?_
 refine s_val hS29 rfl rfl (r_move rfl (.t rfl rfl)) ?_
 refine s_valg hS29 (wanted_of (j := 17) (b := false) (d := 125) rfl rfl rfl rfl) rfl (r_move rfl (.t rfl rfl)) ?_
 refine s_valg hS29 (wanted_of (j := 17) (b := false) (d := 125) rfl rfl rfl rfl) rfl (r_ixv (j := 1) rfl Try.underlying30 ti56 (.t rfl rfl) .c hw4.sl (hw4.len) rfl (by omega)) ?_
 obtain ⟨ea3, ec3, us6, hv3, hx9⟩ := hw4.get2 1 (by omega)
 refine s_valg hS29 (wanted_of (j := 17) (b := false) (d := 125) rfl rfl rfl rfl) rfl (r_load rfl one56 (.t rfl rfl) (hw4.sl.cell_p (i := 7) rfl hv3)) ?_
 refine s_valg hS29 (wanted_of (j := 17) (b := false) (d := 125) rfl rfl rfl rfl) rfl (r_len rfl rfl Try.underlying56 (.t rfl rfl)) ?_
 refine s_valg hS29 (wanted_of (j := 17) (b := false) (d := 125) rfl rfl rfl rfl) rfl (r_cmp_f rfl rfl (.t rfl rfl) .c (show ¬ (¬ ((((((((noR ++ [(([(Z.take 4194300)] : List (List Nat)))]) ++ [(LL.take 4096)]) ++ [([] : List (List Nat))]))).getD 1 []).length : Nat) : Int) = 4096) from by omega)) ?_
 refine s_val hS29 rfl rfl (r_pick rfl (.t rfl rfl) (.t rfl rfl)) ?_
 refine s_val hS29 rfl rfl (r_move rfl (.t rfl rfl)) ?_
 refine s_valg hS29 (wanted_of (j := 24) (b := false) (d := 132) rfl rfl rfl rfl) rfl (r_move rfl (.t rfl rfl)) ?_
 refine s_valg hS29 (wanted_of (j := 24) (b := false) (d := 132) rfl rfl rfl rfl) rfl (r_ixv (j := 2) rfl Try.underlying30 ti56 (.t rfl rfl) .c hw4.sl (hw4.len) rfl (by omega)) ?_
 obtain ⟨ea4, ec4, us7, hv4, hx10⟩ := hw4.get2 2 (by omega)
 refine s_valg hS29 (wanted_of (j := 24) (b := false) (d := 132) rfl rfl rfl rfl) rfl (r_load rfl one56 (.t rfl rfl) (hw4.sl.cell_p (i := 7) rfl hv4)) ?_
 refine s_valg hS29 (wanted_of (j := 24) (b := false) (d := 132) rfl rfl rfl rfl) rfl (r_len rfl rfl Try.underlying56 (.t rfl rfl)) ?_
 refine s_valg hS29 (wanted_of (j := 24) (b := false) (d := 132) rfl rfl rfl rfl) rfl (r_cmp_f rfl rfl (.t rfl rfl) .c (show ¬ (¬ ((((((((noR ++ [(([(Z.take 4194300)] : List (List Nat)))]) ++ [(LL.take 4096)]) ++ [([] : List (List Nat))]))).getD 2 []).length : Nat) : Int) = 0) from by omega)) ?_
 refine s_val hS29 rfl rfl (r_pick rfl (.t rfl rfl) (.t rfl rfl)) ?_
 refine wpList_nil ?_
 refine x_tn ?_
 refine k_reb [(0, .bool false), (1, .pointer (some ⟨d1, 0, none⟩)), (138, .bool false)] ⟨rfl, rfl, rfl, trivial⟩ fun G15 => ?_
 refine k_f (.t rfl rfl) ?_
 refine wp_skip ?_
 refine x_tn ?_
 refine k_reb [(0, .bool false), (1, .pointer (some ⟨d1, 0, none⟩))] ⟨rfl, rfl, trivial⟩ fun G16 => ?_
 refine wp_seq ?_
 refine k_reg ?_
 refine s_val hS29 rfl rfl (r_move rfl (.t rfl rfl)) ?_
 refine s_call rfl rfl rfl (vs := [.pointer (some ⟨d1, 0, none⟩), .string (⟨#[74]⟩)]) ⟨(.t rfl rfl), .c, trivial⟩ cb19 (Open_name w16 _ d1 m1 D5 hup4.lv sm8 hM8 (⟨#[74]⟩ : ByteArray) (by decide) (by decide) (by omega) (hS29.give (xs := [(pk d1 m1 D5), sm8]) [0, 3] rfl (by decide))) ?_
 rintro _ w17 ⟨sm9, hM9, rfl, ht13⟩
 have hS30 : St w0 [] (fl [(pk d1 m1 D5), [(l1, .cells #[.pointer (some ⟨d1, 0, none⟩), .string (⟨#[106]⟩), .int .i64 ((((lg (((noR ++ [(([(Z.take 4194300)] : List (List Nat)))]) ++ [(LL.take 4096)]) ++ [([] : List (List Nat))])).size : Nat) : Int)), .int .i64 ((((lg (((noR ++ [(([(Z.take 4194300)] : List (List Nat)))]) ++ [(LL.take 4096)]) ++ [([] : List (List Nat))])).count : Nat) : Int)), .bool ((lg (((noR ++ [(([(Z.take 4194300)] : List (List Nat)))]) ++ [(LL.take 4096)]) ++ [([] : List (List Nat))])).off)] 92 (0, 0))], [(l2, .cells #[.pointer (some ⟨d1, 0, none⟩), .string (⟨#[106]⟩), .int .i64 ((((lg ((((noR ++ [(([(Z.take 4194300)] : List (List Nat)))]) ++ [(LL.take 4096)]) ++ [([] : List (List Nat))]))).size : Nat) : Int)), .int .i64 ((((lg ((((noR ++ [(([(Z.take 4194300)] : List (List Nat)))]) ++ [(LL.take 4096)]) ++ [([] : List (List Nat))]))).count : Nat) : Int)), .bool ((lg ((((noR ++ [(([(Z.take 4194300)] : List (List Nat)))]) ++ [(LL.take 4096)]) ++ [([] : List (List Nat))]))).off)] 92 (0, 0))], sm9, sg1, sg2, sg5, sg6]) w17 := hS29.callL (xs := [(pk d1 m1 D5), sm8]) (xs' := [(pk d1 m1 D5), sm9]) (zs := []) [0, 3] rfl (by decide) ht13 rfl rfl
 refine s_val hS30 rfl rfl (r_move rfl (.t rfl rfl)) ?_
 refine s_val hS30 rfl rfl (r_extract rfl (.t rfl rfl) rfl) ?_
 refine s_val hS30 rfl rfl (r_extract rfl (.t rfl rfl) rfl) ?_
 refine s_val hS30 rfl rfl (r_extract rfl (.t rfl rfl) rfl) ?_
 refine s_val hS30 rfl rfl (r_assign rfl (.t rfl rfl)) ?_
 refine s_val hS30 rfl rfl (r_assign rfl (.t rfl rfl)) ?_
 refine s_val hS30 rfl rfl (r_assign rfl (.t rfl rfl)) ?_
 refine wpList_nil ?_
 refine x_tn ?_
 refine k_reb [(0, .bool false), (1, .pointer (some ⟨d1, 0, none⟩)), (14, .int .i64 101)] ⟨rfl, rfl, rfl, trivial⟩ fun G17 => ?_
 refine wp_seq ?_
 refine k_reg ?_
 refine s_val hS30 rfl rfl (r_move rfl (.t rfl rfl)) ?_
 refine s_lit rfl rfl rfl Try.underlying22 ti5 (vs := [(0, .int .u8 70), (1, .int .u8 65), (2, .int .u8 84), (3, .int .u8 72), (4, .int .u8 79), (5, .int .u8 77), (6, .int .u8 74), (7, .int .u8 49), (8, .int .u8 0), (9, .int .u8 64), (10, .int .u8 0), (11, .int .u8 1), (12, .int .u8 0), (13, .int .u8 0), (14, .int .u8 0), (15, .int .u8 0)]) ⟨rfl, .c, ⟨rfl, .c, ⟨rfl, .c, ⟨rfl, .c, ⟨rfl, .c, ⟨rfl, .c, ⟨rfl, .c, ⟨rfl, .c, ⟨rfl, .c, ⟨rfl, .c, ⟨rfl, .c, ⟨rfl, .c, ⟨rfl, .c, ⟨rfl, .c, ⟨rfl, .c, ⟨rfl, .c, trivial⟩⟩⟩⟩⟩⟩⟩⟩⟩⟩⟩⟩⟩⟩⟩⟩ (L := [70, 65, 84, 72, 79, 77, 74, 49, 0, 64, 0, 1, 0, 0, 0, 0]) rfl (by omega) rfl hS30 fun blk5 w18 hb5 hB5 hS31 => ?_
 have hS32 : St w0 [] (fl [(pk d1 m1 D5), [(l1, .cells #[.pointer (some ⟨d1, 0, none⟩), .string (⟨#[106]⟩), .int .i64 ((((lg (((noR ++ [(([(Z.take 4194300)] : List (List Nat)))]) ++ [(LL.take 4096)]) ++ [([] : List (List Nat))])).size : Nat) : Int)), .int .i64 ((((lg (((noR ++ [(([(Z.take 4194300)] : List (List Nat)))]) ++ [(LL.take 4096)]) ++ [([] : List (List Nat))])).count : Nat) : Int)), .bool ((lg (((noR ++ [(([(Z.take 4194300)] : List (List Nat)))]) ++ [(LL.take 4096)]) ++ [([] : List (List Nat))])).off)] 92 (0, 0))], [(l2, .cells #[.pointer (some ⟨d1, 0, none⟩), .string (⟨#[106]⟩), .int .i64 ((((lg ((((noR ++ [(([(Z.take 4194300)] : List (List Nat)))]) ++ [(LL.take 4096)]) ++ [([] : List (List Nat))]))).size : Nat) : Int)), .int .i64 ((((lg ((((noR ++ [(([(Z.take 4194300)] : List (List Nat)))]) ++ [(LL.take 4096)]) ++ [([] : List (List Nat))]))).count : Nat) : Int)), .bool ((lg ((((noR ++ [(([(Z.take 4194300)] : List (List Nat)))]) ++ [(LL.take 4096)]) ++ [([] : List (List Nat))]))).off)] 92 (0, 0))], [(blk5, .cells (encN .u8 ([70, 65, 84, 72, 79, 77, 74, 49, 0, 64, 0, 1, 0, 0, 0, 0])) 5 (0, 0))], sm9, sg1, sg2, sg5, sg6]) w18 := hS31.push 3 rfl
 obtain ⟨sg7, hG2, hS33⟩ : ∃ sg7 : Hp, Gr .u8 5 (some ⟨blk5, 0, none⟩) ([70, 65, 84, 72, 79, 77, 74, 49, 0, 64, 0, 1, 0, 0, 0, 0]).length ([70, 65, 84, 72, 79, 77, 74, 49, 0, 64, 0, 1, 0, 0, 0, 0]) sg7 ∧ St w0 [] (fl [(pk d1 m1 D5), [(l1, .cells #[.pointer (some ⟨d1, 0, none⟩), .string (⟨#[106]⟩), .int .i64 ((((lg (((noR ++ [(([(Z.take 4194300)] : List (List Nat)))]) ++ [(LL.take 4096)]) ++ [([] : List (List Nat))])).size : Nat) : Int)), .int .i64 ((((lg (((noR ++ [(([(Z.take 4194300)] : List (List Nat)))]) ++ [(LL.take 4096)]) ++ [([] : List (List Nat))])).count : Nat) : Int)), .bool ((lg (((noR ++ [(([(Z.take 4194300)] : List (List Nat)))]) ++ [(LL.take 4096)]) ++ [([] : List (List Nat))])).off)] 92 (0, 0))], [(l2, .cells #[.pointer (some ⟨d1, 0, none⟩), .string (⟨#[106]⟩), .int .i64 ((((lg ((((noR ++ [(([(Z.take 4194300)] : List (List Nat)))]) ++ [(LL.take 4096)]) ++ [([] : List (List Nat))]))).size : Nat) : Int)), .int .i64 ((((lg ((((noR ++ [(([(Z.take 4194300)] : List (List Nat)))]) ++ [(LL.take 4096)]) ++ [([] : List (List Nat))]))).count : Nat) : Int)), .bool ((lg ((((noR ++ [(([(Z.take 4194300)] : List (List Nat)))]) ++ [(LL.take 4096)]) ++ [([] : List (List Nat))]))).off)] 92 (0, 0))], sm9, sg1, sg2, sg5, sg6, sg7]) w18 := ⟨_, Gr.of_row (by first | rfl | (simp; done) | omega), hS32.pick [0, 1, 2, 4, 5, 6, 7, 8, 3] rfl (by decide)⟩
 have hxl1 : (([70, 65, 84, 72, 79, 77, 74, 49, 0, 64, 0, 1, 0, 0, 0, 0])).length = 16 := rfl
 refine s_call rfl rfl rfl (vs := [.pointer (some ⟨d1, 0, none⟩), .string (⟨#[107]⟩), .slice (some ⟨blk5, 0, none⟩) 16 16]) ⟨(.t rfl rfl), .c, (.t rfl rfl), trivial⟩ cb26 (DAppend_new w18 _ d1 m1 D5 hup4.lv sm9 hM9 (⟨#[107]⟩ : ByteArray) (by decide) hat7 (by omega) (some ⟨blk5, 0, none⟩) 16 ([70, 65, 84, 72, 79, 77, 74, 49, 0, 64, 0, 1, 0, 0, 0, 0]) sg7 (hG2.sl (by decide) (by decide)) (Old.of_piece (i := 8) (xs := [(pk d1 m1 D5), sm9]) [0, 3] hS33 rfl rfl (by decide)) (by omega) (by omega) (hS33.give (xs := [(pk d1 m1 D5), sm9]) [0, 3] rfl (by decide))) ?_
 rintro _ w19 ⟨D6, sm10, hup5, rfl, hM10, ht14⟩
 have hS34 : St w0 [] (fl [(pk d1 m1 D6), [(l1, .cells #[.pointer (some ⟨d1, 0, none⟩), .string (⟨#[106]⟩), .int .i64 ((((lg (((noR ++ [(([(Z.take 4194300)] : List (List Nat)))]) ++ [(LL.take 4096)]) ++ [([] : List (List Nat))])).size : Nat) : Int)), .int .i64 ((((lg (((noR ++ [(([(Z.take 4194300)] : List (List Nat)))]) ++ [(LL.take 4096)]) ++ [([] : List (List Nat))])).count : Nat) : Int)), .bool ((lg (((noR ++ [(([(Z.take 4194300)] : List (List Nat)))]) ++ [(LL.take 4096)]) ++ [([] : List (List Nat))])).off)] 92 (0, 0))], [(l2, .cells #[.pointer (some ⟨d1, 0, none⟩), .string (⟨#[106]⟩), .int .i64 ((((lg ((((noR ++ [(([(Z.take 4194300)] : List (List Nat)))]) ++ [(LL.take 4096)]) ++ [([] : List (List Nat))]))).size : Nat) : Int)), .int .i64 ((((lg ((((noR ++ [(([(Z.take 4194300)] : List (List Nat)))]) ++ [(LL.take 4096)]) ++ [([] : List (List Nat))]))).count : Nat) : Int)), .bool ((lg ((((noR ++ [(([(Z.take 4194300)] : List (List Nat)))]) ++ [(LL.take 4096)]) ++ [([] : List (List Nat))]))).off)] 92 (0, 0))], sm10, sg1, sg2, sg5, sg6, sg7]) w19 := hS33.callL (xs := [(pk d1 m1 D5), sm9]) (xs' := [(pk d1 m1 D6), sm10]) (zs := []) [0, 3] rfl (by decide) ht14 rfl rfl
 have hat9 := (hup5.ne ⟨#[106]⟩ (by decide)).trans hup4.at_
 have hat10 := (hup5.ne ⟨#[109]⟩ (by decide)).trans hat8
 have hu21 := hup5.tot
 have hu22 := hup5.wr
 have hu23 := hup5.room
 have hu24 := hup5.len
 have hnl2 : ([] : List Nat).length = 0 := rfl
 refine s_val hS34 rfl rfl (r_assign rfl (.t rfl rfl)) ?_
 refine wpList_nil ?_
 refine x_tn ?_
 refine k_reb [(0, .bool false), (1, .pointer (some ⟨d1, 0, none⟩)), (14, .int .i64 101), (15, .int .i64 0)] ⟨rfl, rfl, rfl, rfl, trivial⟩ fun G18 => ?_
 refine wp_seq ?_
 refine k_reg ?_
 refine s_val hS34 rfl rfl (r_move rfl (.t rfl rfl)) ?_
 refine s_call rfl rfl rfl (vs := [.pointer (some ⟨d1, 0, none⟩), .string (⟨#[107]⟩)]) ⟨(.t rfl rfl), .c, trivial⟩ cb19 (Open_dmg w19 _ d1 m1 D6 hup5.lv sm10 hM10 (⟨#[107]⟩ : ByteArray) (R0 := [0, 64, 0, 1, 0, 0, 0, 0]) hup5.at_ ⟨by decide, .inl (by decide)⟩ (by omega) (hS34.give (xs := [(pk d1 m1 D6), sm10]) [0, 3] rfl (by decide))) ?_
 rintro _ w20 ⟨sm11, hM11, rfl, ht15⟩
 have hS35 : St w0 [] (fl [(pk d1 m1 D6), [(l1, .cells #[.pointer (some ⟨d1, 0, none⟩), .string (⟨#[106]⟩), .int .i64 ((((lg (((noR ++ [(([(Z.take 4194300)] : List (List Nat)))]) ++ [(LL.take 4096)]) ++ [([] : List (List Nat))])).size : Nat) : Int)), .int .i64 ((((lg (((noR ++ [(([(Z.take 4194300)] : List (List Nat)))]) ++ [(LL.take 4096)]) ++ [([] : List (List Nat))])).count : Nat) : Int)), .bool ((lg (((noR ++ [(([(Z.take 4194300)] : List (List Nat)))]) ++ [(LL.take 4096)]) ++ [([] : List (List Nat))])).off)] 92 (0, 0))], [(l2, .cells #[.pointer (some ⟨d1, 0, none⟩), .string (⟨#[106]⟩), .int .i64 ((((lg ((((noR ++ [(([(Z.take 4194300)] : List (List Nat)))]) ++ [(LL.take 4096)]) ++ [([] : List (List Nat))]))).size : Nat) : Int)), .int .i64 ((((lg ((((noR ++ [(([(Z.take 4194300)] : List (List Nat)))]) ++ [(LL.take 4096)]) ++ [([] : List (List Nat))]))).count : Nat) : Int)), .bool ((lg ((((noR ++ [(([(Z.take 4194300)] : List (List Nat)))]) ++ [(LL.take 4096)]) ++ [([] : List (List Nat))]))).off)] 92 (0, 0))], sm11, sg1, sg2, sg5, sg6, sg7]) w20 := hS34.callL (xs := [(pk d1 m1 D6), sm10]) (xs' := [(pk d1 m1 D6), sm11]) (zs := []) [0, 3] rfl (by decide) ht15 rfl rfl
 refine s_val hS35 rfl rfl (r_move rfl (.t rfl rfl)) ?_
 refine s_val hS35 rfl rfl (r_extract rfl (.t rfl rfl) rfl) ?_
 refine s_val hS35 rfl rfl (r_extract rfl (.t rfl rfl) rfl) ?_
 refine s_val hS35 rfl rfl (r_extract rfl (.t rfl rfl) rfl) ?_
 refine s_val hS35 rfl rfl (r_assign rfl (.t rfl rfl)) ?_
 refine s_val hS35 rfl rfl (r_assign rfl (.t rfl rfl)) ?_
 refine s_val hS35 rfl rfl (r_assign rfl (.t rfl rfl)) ?_
 refine wpList_nil ?_
 refine x_tn ?_
 refine k_reb [(0, .bool false), (1, .pointer (some ⟨d1, 0, none⟩)), (14, .int .i64 101), (15, .int .i64 0), (18, .int .i64 111)] ⟨rfl, rfl, rfl, rfl, rfl, trivial⟩ fun G19 => ?_
 refine wp_seq ?_
 refine k_reg ?_
 refine s_val hS35 rfl rfl (r_move rfl (.t rfl rfl)) ?_
 refine s_lit rfl rfl rfl Try.underlying22 ti5 (vs := [(0, .int .u8 70), (1, .int .u8 65), (2, .int .u8 84), (3, .int .u8 72), (4, .int .u8 79), (5, .int .u8 77), (6, .int .u8 74), (7, .int .u8 49), (8, .int .u8 0), (9, .int .u8 64), (10, .int .u8 0), (11, .int .u8 0), (12, .int .u8 0), (13, .int .u8 0), (14, .int .u8 0), (15, .int .u8 0)]) ⟨rfl, .c, ⟨rfl, .c, ⟨rfl, .c, ⟨rfl, .c, ⟨rfl, .c, ⟨rfl, .c, ⟨rfl, .c, ⟨rfl, .c, ⟨rfl, .c, ⟨rfl, .c, ⟨rfl, .c, ⟨rfl, .c, ⟨rfl, .c, ⟨rfl, .c, ⟨rfl, .c, ⟨rfl, .c, trivial⟩⟩⟩⟩⟩⟩⟩⟩⟩⟩⟩⟩⟩⟩⟩⟩ (L := [70, 65, 84, 72, 79, 77, 74, 49, 0, 64, 0, 0, 0, 0, 0, 0]) rfl (by omega) rfl hS35 fun blk6 w21 hb6 hB6 hS36 => ?_
 have hS37 : St w0 [] (fl [(pk d1 m1 D6), [(l1, .cells #[.pointer (some ⟨d1, 0, none⟩), .string (⟨#[106]⟩), .int .i64 ((((lg (((noR ++ [(([(Z.take 4194300)] : List (List Nat)))]) ++ [(LL.take 4096)]) ++ [([] : List (List Nat))])).size : Nat) : Int)), .int .i64 ((((lg (((noR ++ [(([(Z.take 4194300)] : List (List Nat)))]) ++ [(LL.take 4096)]) ++ [([] : List (List Nat))])).count : Nat) : Int)), .bool ((lg (((noR ++ [(([(Z.take 4194300)] : List (List Nat)))]) ++ [(LL.take 4096)]) ++ [([] : List (List Nat))])).off)] 92 (0, 0))], [(l2, .cells #[.pointer (some ⟨d1, 0, none⟩), .string (⟨#[106]⟩), .int .i64 ((((lg ((((noR ++ [(([(Z.take 4194300)] : List (List Nat)))]) ++ [(LL.take 4096)]) ++ [([] : List (List Nat))]))).size : Nat) : Int)), .int .i64 ((((lg ((((noR ++ [(([(Z.take 4194300)] : List (List Nat)))]) ++ [(LL.take 4096)]) ++ [([] : List (List Nat))]))).count : Nat) : Int)), .bool ((lg ((((noR ++ [(([(Z.take 4194300)] : List (List Nat)))]) ++ [(LL.take 4096)]) ++ [([] : List (List Nat))]))).off)] 92 (0, 0))], [(blk6, .cells (encN .u8 ([70, 65, 84, 72, 79, 77, 74, 49, 0, 64, 0, 0, 0, 0, 0, 0])) 5 (0, 0))], sm11, sg1, sg2, sg5, sg6, sg7]) w21 := hS36.push 3 rfl
 obtain ⟨sg8, hG3, hS38⟩ : ∃ sg8 : Hp, Gr .u8 5 (some ⟨blk6, 0, none⟩) ([70, 65, 84, 72, 79, 77, 74, 49, 0, 64, 0, 0, 0, 0, 0, 0]).length ([70, 65, 84, 72, 79, 77, 74, 49, 0, 64, 0, 0, 0, 0, 0, 0]) sg8 ∧ St w0 [] (fl [(pk d1 m1 D6), [(l1, .cells #[.pointer (some ⟨d1, 0, none⟩), .string (⟨#[106]⟩), .int .i64 ((((lg (((noR ++ [(([(Z.take 4194300)] : List (List Nat)))]) ++ [(LL.take 4096)]) ++ [([] : List (List Nat))])).size : Nat) : Int)), .int .i64 ((((lg (((noR ++ [(([(Z.take 4194300)] : List (List Nat)))]) ++ [(LL.take 4096)]) ++ [([] : List (List Nat))])).count : Nat) : Int)), .bool ((lg (((noR ++ [(([(Z.take 4194300)] : List (List Nat)))]) ++ [(LL.take 4096)]) ++ [([] : List (List Nat))])).off)] 92 (0, 0))], [(l2, .cells #[.pointer (some ⟨d1, 0, none⟩), .string (⟨#[106]⟩), .int .i64 ((((lg ((((noR ++ [(([(Z.take 4194300)] : List (List Nat)))]) ++ [(LL.take 4096)]) ++ [([] : List (List Nat))]))).size : Nat) : Int)), .int .i64 ((((lg ((((noR ++ [(([(Z.take 4194300)] : List (List Nat)))]) ++ [(LL.take 4096)]) ++ [([] : List (List Nat))]))).count : Nat) : Int)), .bool ((lg ((((noR ++ [(([(Z.take 4194300)] : List (List Nat)))]) ++ [(LL.take 4096)]) ++ [([] : List (List Nat))]))).off)] 92 (0, 0))], sm11, sg1, sg2, sg5, sg6, sg7, sg8]) w21 := ⟨_, Gr.of_row (by first | rfl | (simp; done) | omega), hS37.pick [0, 1, 2, 4, 5, 6, 7, 8, 9, 3] rfl (by decide)⟩
 have hxl2 : (([70, 65, 84, 72, 79, 77, 74, 49, 0, 64, 0, 0, 0, 0, 0, 0])).length = 16 := rfl
 refine s_call rfl rfl rfl (vs := [.pointer (some ⟨d1, 0, none⟩), .string (⟨#[109]⟩), .slice (some ⟨blk6, 0, none⟩) 16 16]) ⟨(.t rfl rfl), .c, (.t rfl rfl), trivial⟩ cb26 (DAppend_new w21 _ d1 m1 D6 hup5.lv sm11 hM11 (⟨#[109]⟩ : ByteArray) (by decide) hat10 (by omega) (some ⟨blk6, 0, none⟩) 16 ([70, 65, 84, 72, 79, 77, 74, 49, 0, 64, 0, 0, 0, 0, 0, 0]) sg8 (hG3.sl (by decide) (by decide)) (Old.of_piece (i := 9) (xs := [(pk d1 m1 D6), sm11]) [0, 3] hS38 rfl rfl (by decide)) (by omega) (by omega) (hS38.give (xs := [(pk d1 m1 D6), sm11]) [0, 3] rfl (by decide))) ?_
 rintro _ w22 ⟨D7, sm12, hup6, rfl, hM12, ht16⟩
 have hS39 : St w0 [] (fl [(pk d1 m1 D7), [(l1, .cells #[.pointer (some ⟨d1, 0, none⟩), .string (⟨#[106]⟩), .int .i64 ((((lg (((noR ++ [(([(Z.take 4194300)] : List (List Nat)))]) ++ [(LL.take 4096)]) ++ [([] : List (List Nat))])).size : Nat) : Int)), .int .i64 ((((lg (((noR ++ [(([(Z.take 4194300)] : List (List Nat)))]) ++ [(LL.take 4096)]) ++ [([] : List (List Nat))])).count : Nat) : Int)), .bool ((lg (((noR ++ [(([(Z.take 4194300)] : List (List Nat)))]) ++ [(LL.take 4096)]) ++ [([] : List (List Nat))])).off)] 92 (0, 0))], [(l2, .cells #[.pointer (some ⟨d1, 0, none⟩), .string (⟨#[106]⟩), .int .i64 ((((lg ((((noR ++ [(([(Z.take 4194300)] : List (List Nat)))]) ++ [(LL.take 4096)]) ++ [([] : List (List Nat))]))).size : Nat) : Int)), .int .i64 ((((lg ((((noR ++ [(([(Z.take 4194300)] : List (List Nat)))]) ++ [(LL.take 4096)]) ++ [([] : List (List Nat))]))).count : Nat) : Int)), .bool ((lg ((((noR ++ [(([(Z.take 4194300)] : List (List Nat)))]) ++ [(LL.take 4096)]) ++ [([] : List (List Nat))]))).off)] 92 (0, 0))], sm12, sg1, sg2, sg5, sg6, sg7, sg8]) w22 := hS38.callL (xs := [(pk d1 m1 D6), sm11]) (xs' := [(pk d1 m1 D7), sm12]) (zs := []) [0, 3] rfl (by decide) ht16 rfl rfl
 have hat11 := (hup6.ne ⟨#[106]⟩ (by decide)).trans hat9
 have hat12 := (hup6.ne ⟨#[107]⟩ (by decide)).trans hup5.at_
 have hu25 := hup6.tot
 have hu26 := hup6.wr
 have hu27 := hup6.room
 have hu28 := hup6.len
 have hnl3 : ([] : List Nat).length = 0 := rfl
 refine s_val hS39 rfl rfl (r_assign rfl (.t rfl rfl)) ?_
 refine wpList_nil ?_
 refine x_tn ?_
 refine k_reb [(0, .bool false), (1, .pointer (some ⟨d1, 0, none⟩)), (14, .int .i64 101), (15, .int .i64 0), (18, .int .i64 111), (19, .int .i64 0)] ⟨rfl, rfl, rfl, rfl, rfl, rfl, trivial⟩ fun G20 => ?_
 refine wp_seq ?_
 refine k_reg ?_
 refine s_val hS39 rfl rfl (r_move rfl (.t rfl rfl)) ?_
 refine s_call rfl rfl rfl (vs := [.pointer (some ⟨d1, 0, none⟩), .string (⟨#[109]⟩)]) ⟨(.t rfl rfl), .c, trivial⟩ cb19 (Open_tail w22 _ d1 m1 D7 hup6.lv sm12 hM12 (⟨#[109]⟩ : ByteArray) (R0 := [0, 64, 0, 0, 0, 0, 0, 0]) hup6.at_ ⟨by decide, .inr ⟨by decide, by decide⟩⟩ (by omega) (hS39.give (xs := [(pk d1 m1 D7), sm12]) [0, 3] rfl (by decide))) ?_
 rintro _ w23 ⟨D8, sm13, l3, oa3, oc3, sg9, hup7, hM13, rfl, hO3, ht17⟩
 have hS41 : St w0 [] (fl [(pk d1 m1 D8), [(l1, .cells #[.pointer (some ⟨d1, 0, none⟩), .string (⟨#[106]⟩), .int .i64 ((((lg (((noR ++ [(([(Z.take 4194300)] : List (List Nat)))]) ++ [(LL.take 4096)]) ++ [([] : List (List Nat))])).size : Nat) : Int)), .int .i64 ((((lg (((noR ++ [(([(Z.take 4194300)] : List (List Nat)))]) ++ [(LL.take 4096)]) ++ [([] : List (List Nat))])).count : Nat) : Int)), .bool ((lg (((noR ++ [(([(Z.take 4194300)] : List (List Nat)))]) ++ [(LL.take 4096)]) ++ [([] : List (List Nat))])).off)] 92 (0, 0))], [(l2, .cells #[.pointer (some ⟨d1, 0, none⟩), .string (⟨#[106]⟩), .int .i64 ((((lg ((((noR ++ [(([(Z.take 4194300)] : List (List Nat)))]) ++ [(LL.take 4096)]) ++ [([] : List (List Nat))]))).size : Nat) : Int)), .int .i64 ((((lg ((((noR ++ [(([(Z.take 4194300)] : List (List Nat)))]) ++ [(LL.take 4096)]) ++ [([] : List (List Nat))]))).count : Nat) : Int)), .bool ((lg ((((noR ++ [(([(Z.take 4194300)] : List (List Nat)))]) ++ [(LL.take 4096)]) ++ [([] : List (List Nat))]))).off)] 92 (0, 0))], sm13, sg1, sg2, sg5, sg6, sg7, sg8, (lq l3 d1 (⟨#[109]⟩) noR), sg9]) w23 := hS39.callL (xs := [(pk d1 m1 D7), sm12]) (xs' := [(pk d1 m1 D8), sm13]) (zs := [(lq l3 d1 (⟨#[109]⟩) noR), sg9]) [0, 3] rfl (by decide) ht17 rfl rfl
 have hS42 : St w0 [] (fl [(pk d1 m1 D8), [(l1, .cells #[.pointer (some ⟨d1, 0, none⟩), .string (⟨#[106]⟩), .int .i64 ((((lg (((noR ++ [(([(Z.take 4194300)] : List (List Nat)))]) ++ [(LL.take 4096)]) ++ [([] : List (List Nat))])).size : Nat) : Int)), .int .i64 ((((lg (((noR ++ [(([(Z.take 4194300)] : List (List Nat)))]) ++ [(LL.take 4096)]) ++ [([] : List (List Nat))])).count : Nat) : Int)), .bool ((lg (((noR ++ [(([(Z.take 4194300)] : List (List Nat)))]) ++ [(LL.take 4096)]) ++ [([] : List (List Nat))])).off)] 92 (0, 0))], [(l2, .cells #[.pointer (some ⟨d1, 0, none⟩), .string (⟨#[106]⟩), .int .i64 ((((lg ((((noR ++ [(([(Z.take 4194300)] : List (List Nat)))]) ++ [(LL.take 4096)]) ++ [([] : List (List Nat))]))).size : Nat) : Int)), .int .i64 ((((lg ((((noR ++ [(([(Z.take 4194300)] : List (List Nat)))]) ++ [(LL.take 4096)]) ++ [([] : List (List Nat))]))).count : Nat) : Int)), .bool ((lg ((((noR ++ [(([(Z.take 4194300)] : List (List Nat)))]) ++ [(LL.take 4096)]) ++ [([] : List (List Nat))]))).off)] 92 (0, 0))], (lq l3 d1 (⟨#[109]⟩) noR), sm13, sg1, sg2, sg5, sg6, sg7, sg8, sg9]) w23 := hS41.pick [0, 1, 2, 10, 3, 4, 5, 6, 7, 8, 9, 11] rfl (by decide)
 have hat13 := (hup7.ne ⟨#[106]⟩ (by decide)).trans hat11
 have hat14 := (hup7.ne ⟨#[107]⟩ (by decide)).trans hat12
 have hu29 := hup7.tot
 have hu30 := hup7.wr
 have hu31 := hup7.room
 have hu32 := hup7.same
 have hnr3 : noR.length = 0 := rfl
 have hnr4 : (logL noR).length = 8 := rfl
 refine s_val hS42 rfl rfl (r_move rfl (.t rfl rfl)) ?_
 refine s_val hS42 rfl rfl (r_extract rfl (.t rfl rfl) rfl) ?_
 refine s_val hS42 rfl rfl (r_extract rfl (.t rfl rfl) rfl) ?_
 refine s_val hS42 rfl rfl (r_extract rfl (.t rfl rfl) rfl) ?_
 refine s_val hS42 rfl rfl (r_assign rfl (.t rfl rfl)) ?_
 refine s_val hS42 rfl rfl (r_assign rfl (.t rfl rfl)) ?_
 refine s_val hS42 rfl rfl (r_assign rfl (.t rfl rfl)) ?_
 refine wpList_nil ?_
 refine x_tn ?_
 refine k_reb [(0, .bool false), (1, .pointer (some ⟨d1, 0, none⟩)), (14, .int .i64 101), (15, .int .i64 0), (18, .int .i64 111), (19, .int .i64 0), (21, .slice oa3 noR.length oc3), (22, .int .i64 0)] ⟨rfl, rfl, rfl, rfl, rfl, rfl, rfl, rfl, trivial⟩ fun G21 => ?_
 refine wp_seq ?_
 refine k_reg ?_
 refine s_val hS42 rfl rfl (r_move rfl (.t rfl rfl)) ?_
 refine s_call rfl rfl rfl (vs := [.pointer (some ⟨d1, 0, none⟩), .string (⟨#[109]⟩)]) ⟨(.t rfl rfl), .c, trivial⟩ cb34 (Size_lv w23 _ d1 m1 D8 hup7.lv sm13 hM13 (⟨#[109]⟩ : ByteArray) hup7.at_ (hS42.give (xs := [(pk d1 m1 D8), sm13]) [0, 4] rfl (by decide))) ?_
 rintro _ w24 ⟨rfl, ht18⟩
 have hS43 : St w0 [] (fl [(pk d1 m1 D8), [(l1, .cells #[.pointer (some ⟨d1, 0, none⟩), .string (⟨#[106]⟩), .int .i64 ((((lg (((noR ++ [(([(Z.take 4194300)] : List (List Nat)))]) ++ [(LL.take 4096)]) ++ [([] : List (List Nat))])).size : Nat) : Int)), .int .i64 ((((lg (((noR ++ [(([(Z.take 4194300)] : List (List Nat)))]) ++ [(LL.take 4096)]) ++ [([] : List (List Nat))])).count : Nat) : Int)), .bool ((lg (((noR ++ [(([(Z.take 4194300)] : List (List Nat)))]) ++ [(LL.take 4096)]) ++ [([] : List (List Nat))])).off)] 92 (0, 0))], [(l2, .cells #[.pointer (some ⟨d1, 0, none⟩), .string (⟨#[106]⟩), .int .i64 ((((lg ((((noR ++ [(([(Z.take 4194300)] : List (List Nat)))]) ++ [(LL.take 4096)]) ++ [([] : List (List Nat))]))).size : Nat) : Int)), .int .i64 ((((lg ((((noR ++ [(([(Z.take 4194300)] : List (List Nat)))]) ++ [(LL.take 4096)]) ++ [([] : List (List Nat))]))).count : Nat) : Int)), .bool ((lg ((((noR ++ [(([(Z.take 4194300)] : List (List Nat)))]) ++ [(LL.take 4096)]) ++ [([] : List (List Nat))]))).off)] 92 (0, 0))], (lq l3 d1 (⟨#[109]⟩) noR), sm13, sg1, sg2, sg5, sg6, sg7, sg8, sg9]) w24 := hS42.callL (xs := [(pk d1 m1 D8), sm13]) (xs' := [(pk d1 m1 D8), sm13]) (zs := []) [0, 4] rfl (by decide) ht18 rfl rfl
 refine s_val hS43 rfl rfl (r_move rfl (.t rfl rfl)) ?_
 refine s_val hS43 rfl rfl (r_extract rfl (.t rfl rfl) rfl) ?_
 refine s_val hS43 rfl rfl (r_extract rfl (.t rfl rfl) rfl) ?_
 refine s_val hS43 rfl rfl (r_assign rfl (.t rfl rfl)) ?_
 refine s_val hS43 rfl rfl (r_assign rfl (.t rfl rfl)) ?_
 refine wpList_nil ?_
 refine x_tn ?_
 refine k_reb [(0, .bool false), (14, .int .i64 101), (15, .int .i64 0), (18, .int .i64 111), (19, .int .i64 0), (21, .slice oa3 noR.length oc3), (22, .int .i64 0), (23, .int .i64 ((((logL noR).length : Nat) : Int)))] ⟨rfl, rfl, rfl, rfl, rfl, rfl, rfl, rfl, trivial⟩ fun G22 => ?_
 refine wp_seq ?_
 refine k_reg ?_
 refine s_val hS43 rfl rfl (r_move rfl (.t rfl rfl)) ?_
 refine s_call rfl rfl rfl (vs := [.int .i64 101]) ⟨(.t rfl rfl), trivial⟩ cb16 (num_ok w24 101) ?_
 rintro _ w24 ⟨rfl, rfl⟩
 refine s_val hS43 rfl rfl (r_cmp_t rfl rfl (.t rfl rfl) .c (show 101 = 101 from by omega)) ?_
 refine s_val hS43 rfl rfl (r_move rfl (.t rfl rfl)) ?_
 refine s_valg hS43 (wanted_of (j := 3) (b := true) (d := 171) rfl rfl rfl rfl) rfl (r_move rfl (.t rfl rfl)) ?_
 refine s_callg (wanted_of (j := 3) (b := true) (d := 171) rfl rfl rfl rfl) rfl rfl (vs := [.int .i64 0]) ⟨(.t rfl rfl), trivial⟩ cb16 (num_ok w24 0) ?_
 rintro _ w24 ⟨rfl, rfl⟩
 refine s_valg hS43 (wanted_of (j := 3) (b := true) (d := 171) rfl rfl rfl rfl) rfl (r_cmp_t rfl rfl (.t rfl rfl) .c (show 0 = 0 from by omega)) ?_
 refine s_val hS43 rfl rfl (r_pick rfl (.t rfl rfl) (.t rfl rfl)) ?_
 refine s_val hS43 rfl rfl (r_move rfl (.t rfl rfl)) ?_
 refine s_valg hS43 (wanted_of (j := 8) (b := true) (d := 176) rfl rfl rfl rfl) rfl (r_move rfl (.t rfl rfl)) ?_
 refine s_callg (wanted_of (j := 8) (b := true) (d := 176) rfl rfl rfl rfl) rfl rfl (vs := [.int .i64 111]) ⟨(.t rfl rfl), trivial⟩ cb16 (num_ok w24 111) ?_
 rintro _ w24 ⟨rfl, rfl⟩
 refine s_valg hS43 (wanted_of (j := 8) (b := true) (d := 176) rfl rfl rfl rfl) rfl (r_cmp_t rfl rfl (.t rfl rfl) .c (show 111 = 111 from by omega)) ?_
 refine s_val hS43 rfl rfl (r_pick rfl (.t rfl rfl) (.t rfl rfl)) ?_
 refine s_val hS43 rfl rfl (r_move rfl (.t rfl rfl)) ?_
 refine s_valg hS43 (wanted_of (j := 13) (b := true) (d := 181) rfl rfl rfl rfl) rfl (r_move rfl (.t rfl rfl)) ?_
 refine s_callg (wanted_of (j := 13) (b := true) (d := 181) rfl rfl rfl rfl) rfl rfl (vs := [.int .i64 0]) ⟨(.t rfl rfl), trivial⟩ cb16 (num_ok w24 0) ?_
 rintro _ w24 ⟨rfl, rfl⟩
 refine s_valg hS43 (wanted_of (j := 13) (b := true) (d := 181) rfl rfl rfl rfl) rfl (r_cmp_t rfl rfl (.t rfl rfl) .c (show 0 = 0 from by omega)) ?_
 refine s_val hS43 rfl rfl (r_pick rfl (.t rfl rfl) (.t rfl rfl)) ?_
 refine s_val hS43 rfl rfl (r_move rfl (.t rfl rfl)) ?_
 refine s_valg hS43 (wanted_of (j := 18) (b := true) (d := 186) rfl rfl rfl rfl) rfl (r_move rfl (.t rfl rfl)) ?_
 refine s_callg (wanted_of (j := 18) (b := true) (d := 186) rfl rfl rfl rfl) rfl rfl (vs := [.int .i64 0]) ⟨(.t rfl rfl), trivial⟩ cb16 (num_ok w24 0) ?_
 rintro _ w24 ⟨rfl, rfl⟩
 refine s_valg hS43 (wanted_of (j := 18) (b := true) (d := 186) rfl rfl rfl rfl) rfl (r_cmp_t rfl rfl (.t rfl rfl) .c (show 0 = 0 from by omega)) ?_
 refine s_val hS43 rfl rfl (r_pick rfl (.t rfl rfl) (.t rfl rfl)) ?_
 refine s_val hS43 rfl rfl (r_move rfl (.t rfl rfl)) ?_
 refine s_valg hS43 (wanted_of (j := 23) (b := true) (d := 191) rfl rfl rfl rfl) rfl (r_move rfl (.t rfl rfl)) ?_
 refine s_valg hS43 (wanted_of (j := 23) (b := true) (d := 191) rfl rfl rfl rfl) rfl (r_len rfl rfl Try.underlying30 (.t rfl rfl)) ?_
 refine s_valg hS43 (wanted_of (j := 23) (b := true) (d := 191) rfl rfl rfl rfl) rfl (r_cmp_t rfl rfl (.t rfl rfl) .c (show ((noR.length : Nat) : Int) = 0 from by omega)) ?_
 refine s_val hS43 rfl rfl (r_pick rfl (.t rfl rfl) (.t rfl rfl)) ?_
 refine s_val hS43 rfl rfl (r_move rfl (.t rfl rfl)) ?_
 refine s_valg hS43 (wanted_of (j := 28) (b := true) (d := 196) rfl rfl rfl rfl) rfl (r_move rfl (.t rfl rfl)) ?_
 refine s_valg hS43 (wanted_of (j := 28) (b := true) (d := 196) rfl rfl rfl rfl) rfl (r_cmp_t rfl rfl (.t rfl rfl) .c (show (((logL noR).length : Nat) : Int) = 8 from by omega)) ?_
 refine s_val hS43 rfl rfl (r_pick rfl (.t rfl rfl) (.t rfl rfl)) ?_
 refine s_val hS43 rfl rfl (r_assign rfl (.t rfl rfl)) ?_
 refine wpList_nil ?_
 refine x_tn ?_
 refine k_reb [(0, .bool true)] ⟨rfl, trivial⟩ fun G23 => ?_
 refine wp_ret ?_
 refine k_ret1 Try.results8 rfl rfl ?_
 refine ⟨_, rfl, ?_⟩
 have hS44 : St w0 [] (fl []) w24 := hS43.pick [] rfl (by decide)
 exact ⟨rfl, hS44⟩

end Go.Proofs.Ytdmiklegahdafaa
