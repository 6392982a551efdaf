/- Contracts of functions of the program, each walked once. -/
import Derived.Test.YtdmiklegahdafaaFnE
import Derived.Test.YtdmiklegahdafaaKJou
namespace Go.Proofs.Ytdmiklegahdafaa
open Go Go.RowKit K
namespace FF
theorem mixed : Try.prog.follows .mixedOrders = true := by kernel_rfl
theorem cb11 : callable Try.prog 11 = true := by kernel_rfl
theorem cb41 : callable Try.prog 41 = true := by kernel_rfl
theorem cb64 : callable Try.prog 64 = true := by kernel_rfl
theorem one22 : One Try.prog 22 = true := by kernel_rfl
theorem ti22 : (Try.prog.info? 22).map (fun i => (i.zero, i.size, i.bytes)) = some (some (.slice none 0 0), 1, 24) := by kernel_rfl
theorem ti5 : (Try.prog.info? 5).map (fun i => (i.zero, i.size, i.bytes)) = some (some (.int .u8 0), 1, 1) := by kernel_rfl

end FF
open FF
attribute [local irreducible] Go.wpList Go.wpQuiet Go.wpStill Go.wpAny Go.Code.wp
set_option maxRecDepth 10000
set_option maxHeartbeats 8000000
set_option linter.unusedVariables false
set_option linter.unusedSimpArgs false
theorem laid_ok (w0 : World) (aB : Option Addr) (cB : Nat) (uB : List Value) (B : List (List Nat)) (vB : Hp) (hB : RwV R1 aB cB uB B vB) (oB : Old w0 [] vB) (lB : (bodyL B).length ≤ 4194304) :
  Calls Try.prog 57 #[.slice aB B.length cB] w0 (Ret fun v w' => ∃ a c sg, v = .slice a ((recL B).length) c ∧ Gr .u8 U8 a c (recL B) sg ∧ St w0 [] (fl [sg]) w') := by
 refine k_enter (vs := [.slice aB B.length cB]) Try.func57 rfl Try.ntmps57 rfl ?_
 have hS : St w0 [] (fl []) w0 := St.init w0
 have fB := hB.fit
 have mB := hB.most
 refine wp_seq ?_
 refine k_reg ?_
 refine s_val hS rfl rfl (r_assign rfl .c) ?_
 refine wpList_nil ?_
 refine x_tn ?_
 refine wp_seq ?_
 refine k_reg ?_
 refine s_make rfl rfl rfl Try.underlying22 ti5 .c .c (len := 8) (cap := 8) rfl rfl (by omega) (by omega) (by omega) hS fun blk1 w1 hb1 hB1 hS1 => ?_
 have hS2 : St w0 [] (fl [[(blk1, .cells (encN .u8 (List.replicate 8 0)) 5 (0, 0))]]) w1 := hS1.push 0 rfl
 refine s_val hS2 rfl rfl (r_assign rfl (.t rfl rfl)) ?_
 refine wpList_nil ?_
 refine x_tn ?_
 refine k_reb [(0, .slice aB B.length cB), (2, .slice none 0 0), (3, .slice (some ⟨blk1, 0, none⟩) 8 8)] ⟨rfl, rfl, rfl, trivial⟩ fun G1 => ?_
 refine wp_seq ?_
 refine wp_seq ?_
 refine k_reg ?_
 refine s_val hS2 rfl rfl (r_move rfl (.t rfl rfl)) ?_
 refine s_val hS2 rfl rfl (r_len rfl rfl Try.underlying56 (.t rfl rfl)) ?_
 refine s_val hS2 rfl rfl (r_move rfl .c) ?_
 refine wpList_nil ?_
 refine x_tn ?_
 refine k_reb [(2, .slice none 0 0), (3, .slice (some ⟨blk1, 0, none⟩) 8 8), (8, .slice aB B.length cB), (9, .int .i64 (((B.length : Nat) : Int))), (10, .int .i64 0)] ⟨rfl, rfl, rfl, rfl, rfl, trivial⟩ fun G2 => ?_
 refine wp_block ?_
 obtain ⟨sg1, hG1, hS3⟩ : ∃ sg1 : Hp, Gr .u8 5 (some ⟨blk1, 0, none⟩) (List.replicate 8 0).length (List.replicate 8 0) sg1 ∧ St w0 [] (fl [sg1]) w1 := ⟨_, Gr.of_row (by first | rfl | (simp; done) | omega), hS2.pick [0] rfl (by decide)⟩
 refine wp_loop_ghost (fun (m1 : Nat) a w => ∃ (G : Nat → Value) (i : Nat) (k : Nat) (ga : Option Addr) (gc : Nat) (sg : Hp), a = fr 42 [(2, .slice none 0 0), (3, .slice ga k gc), (8, .slice aB B.length cB), (9, .int .i64 (((B.length : Nat) : Int))), (10, .int .i64 (((i : Nat) : Int)))] G ∧ St w0 [] (fl [sg]) w ∧ (m1 = B.length - i ∧ i ≤ B.length ∧ k = (List.replicate 8 0 ++ bodyL (B.take i)).length ∧ Gr .u8 U8 ga gc (List.replicate 8 0 ++ bodyL (B.take i)) sg)) (B.length) ⟨_, 0, 8, some ⟨blk1, 0, none⟩, 8, sg1, fr_reb _ ⟨rfl, rfl, rfl, rfl, rfl, trivial⟩, hS3, ?_⟩ ?_
 ·
  exact ⟨rfl, by omega, rfl, hG1⟩
 ·
  intro m1 _ w2 hI1
  obtain ⟨G3, i, k, ga, gc, sg, rfl, hS4, ⟨hm, hi, hk, hG⟩⟩ := hI1
  have hbt := bodyL_take_le B i
  have hk2 : k = 8 + (bodyL (B.take i)).length := by rw [hk, List.length_append, List.length_replicate]
  refine wp_seq ?_
  refine k_reg ?_
  by_cases c1 : i < B.length
  ·
   refine s_val hS4 rfl rfl (r_cmp_t rfl rfl (.t rfl rfl) (.t rfl rfl) (show ((i : Nat) : Int) < ((B.length : Nat) : Int) from by omega)) ?_
   refine wpList_nil ?_
   refine x_tn ?_
   refine wp_seq ?_
   refine k_t (.t rfl rfl) ?_
   refine wp_skip ?_
   refine x_tn ?_
   refine k_reb [(2, .slice none 0 0), (3, .slice ga k gc), (8, .slice aB B.length cB), (9, .int .i64 (((B.length : Nat) : Int))), (10, .int .i64 (((i : Nat) : Int)))] ⟨rfl, rfl, rfl, rfl, rfl, trivial⟩ fun G4 => ?_
   refine wp_seq ?_
   refine wp_block ?_
   refine wp_seq ?_
   refine k_reg ?_
   refine s_val hS4 rfl rfl (r_ixv (j := i) rfl Try.underlying56 ti22 (.t rfl rfl) (.t rfl rfl) hB.sl (hB.len) rfl (by omega)) ?_
   obtain ⟨ea1, ec1, hv1, hx1⟩ := hB.get i (by omega)
   refine s_val hS4 rfl rfl (r_load rfl one22 (.t rfl rfl) (hB.sl.cell_o oB hv1)) ?_
   refine s_val hS4 rfl rfl (r_assign rfl (.t rfl rfl)) ?_
   refine wpList_nil ?_
   refine x_tn ?_
   refine k_reb [(2, .slice none 0 0), (3, .slice ga k gc), (5, .slice ea1 ((B.getD i []).length) ec1), (8, .slice aB B.length cB), (9, .int .i64 (((B.length : Nat) : Int))), (10, .int .i64 (((i : Nat) : Int)))] ⟨rfl, rfl, rfl, rfl, rfl, rfl, trivial⟩ fun G5 => ?_
   refine k_reg ?_
   refine s_val hS4 rfl rfl (r_move rfl (.t rfl rfl)) ?_
   refine s_val hS4 rfl rfl (r_move rfl (.t rfl rfl)) ?_
   refine s_val hS4 rfl rfl (r_len rfl rfl Try.underlying22 (.t rfl rfl)) ?_
   have hrw := bodyL_row_le (LL := B) (i := i) (by omega)
   refine s_val hS4 rfl rfl (r_conv rfl Try.underlying3 Try.underlying25 (.t rfl rfl) (c := (((B.getD i []).length : Nat) : Int)) (wn_u32 rfl (by omega))) ?_
   refine s_call rfl rfl rfl (vs := [.int .u32 ((((B.getD i []).length : Nat) : Int))]) ⟨(.t rfl rfl), trivial⟩ cb64 (four_ok w2 ((B.getD i []).length) (by omega) ) ?_
   rintro _ w3 ⟨ra1, rc1, sg2, rfl, hG2, ht1⟩
   have hS5 : St w0 [] (fl [sg, sg2]) w3 := hS4.callL (xs := []) (xs' := []) (zs := [sg2]) [] rfl (by decide) ht1 rfl rfl
   refine s_appendG (i := 0) rfl rfl rfl rfl ⟨_, _, rfl, Try.underlying22⟩ Try.underlying22 ti5 (by omega) (by omega) (.t rfl rfl) (.t rfl rfl) rfl hG hS5 (by first | rfl | assumption | omega | (simp; done) | (simp; omega)) (hG2.sl (by rw [fourL_len]; omega) (fourL_fit _)) (hS5.has (i := 1) rfl) rfl (by simp only [List.length_append, List.length_replicate, fourL_len]; omega) fun ga1 gc1 sg3 w4 hG3 hS6 => ?_
   have hS7 : St w0 [] (fl [sg3, sg2]) w4 := hS6
   refine s_val hS7 rfl rfl (r_move rfl (.t rfl rfl)) ?_
   refine s_appendG (i := 0) rfl rfl rfl rfl ⟨_, _, rfl, Try.underlying22⟩ Try.underlying22 ti5 (by omega) (by omega) (.t rfl rfl) (.t rfl rfl) rfl hG3 hS7 (by simp only [List.length_append, List.length_replicate, fourL_len]; omega) hx1 (oB.has hS7) rfl (by simp only [List.length_append, List.length_replicate, fourL_len]; omega) fun ga2 gc2 sg4 w5 hG4 hS8 => ?_
   have hS9 : St w0 [] (fl [sg4, sg2]) w5 := hS8
   refine s_val hS9 rfl rfl (r_assign rfl (.t rfl rfl)) ?_
   refine wpList_nil ?_
   refine x_bn ?_
   refine x_tn ?_
   refine k_reb [(2, .slice none 0 0), (3, .slice ga2 ((k + 4) + ((B.getD i []).length)) gc2), (8, .slice aB B.length cB), (9, .int .i64 (((B.length : Nat) : Int))), (10, .int .i64 (((i : Nat) : Int)))] ⟨rfl, rfl, rfl, rfl, rfl, trivial⟩ fun G6 => ?_
   refine k_reg ?_
   refine s_val hS9 rfl rfl (r_arith rfl rfl (.t rfl rfl) .c (c := ((i + 1 : Nat) : Int)) (wn_i64 (by show (((i : Nat) : Int) : Int) + 1 = _; omega) (by omega))) ?_
   refine s_val hS9 rfl rfl (r_move rfl (.t rfl rfl)) ?_
   refine wpList_nil ?_
   refine x_tn ?_
   have hS10 : St w0 [] (fl [sg4]) w5 := hS9.pick [0] rfl (by decide)
   refine ⟨B.length - (i + 1), by omega, _, i + 1, (k + 4) + ((B.getD i []).length), ga2, gc2, sg4, fr_reb _ ⟨rfl, rfl, rfl, rfl, rfl, trivial⟩, hS10, ?_⟩
   have hnx : List.replicate 8 0 ++ bodyL (B.take i) ++ fourL (B.getD i []).length ++ B.getD i [] = List.replicate 8 0 ++ bodyL (B.take (i + 1)) := by rw [bodyL_take (by omega)]; simp only [List.append_assoc]
   rw [hnx] at hG4
   exact ⟨by omega, by omega, by rw [← hnx, List.length_append, List.length_append, ← hk]; rfl, hG4⟩
  ·
   refine s_val hS4 rfl rfl (r_cmp_f rfl rfl (.t rfl rfl) (.t rfl rfl) (show ¬ (((i : Nat) : Int) < ((B.length : Nat) : Int)) from by omega)) ?_
   refine wpList_nil ?_
   refine x_tn ?_
   refine wp_seq ?_
   refine k_f (.t rfl rfl) ?_
   refine wp_exit ?_
   refine x_te ?_
   refine x_te ?_
   refine x_be ?_
   refine x_tn ?_
   refine k_reb [(2, .slice none 0 0), (3, .slice ga k gc)] ⟨rfl, rfl, trivial⟩ fun G7 => ?_
   refine wp_seq ?_
   refine k_reg ?_
   have hie : i = B.length := by omega
   have hte : bodyL (B.take i) = bodyL B := by rw [hie, List.take_length]
   rw [hte] at hk2
   refine s_val hS4 rfl rfl (r_move rfl (.t rfl rfl)) ?_
   refine s_val hS4 rfl rfl (r_move rfl (.t rfl rfl)) ?_
   refine s_val hS4 rfl rfl (r_len rfl rfl Try.underlying22 (.t rfl rfl)) ?_
   refine s_val hS4 rfl rfl (r_arith rfl rfl (.t rfl rfl) .c (c := ((k - 8 : Nat) : Int)) (wn_i64 (by show (((k : Nat) : Int) : Int) - 8 = _; omega) (by omega))) ?_
   refine s_val hS4 rfl rfl (r_conv rfl Try.underlying3 Try.underlying25 (.t rfl rfl) (c := ((k - 8 : Nat) : Int)) (wn_u32 rfl (by omega))) ?_
   refine s_call rfl rfl rfl (vs := [.int .u32 (((k - 8 : Nat) : Int))]) ⟨(.t rfl rfl), trivial⟩ cb64 (four_ok w2 (k - 8) (by omega) ) ?_
   rintro _ w6 ⟨ra2, rc2, sg5, rfl, hG5, ht2⟩
   have hS11 : St w0 [] (fl [sg, sg5]) w6 := hS4.callL (xs := []) (xs' := []) (zs := [sg5]) [] rfl (by decide) ht2 rfl rfl
   obtain ⟨Z, hZ⟩ : ∃ Z, Z = fourL (bodyL B).length ++ (List.replicate 4 0 ++ bodyL B) := ⟨_, rfl⟩
   have hZf : ∀ x ∈ Z, x ≤ 255 := by rw [hZ]; exact app_fit (fourL_fit _) (app_fit (fun x hx => by rw [List.eq_of_mem_replicate hx]; exact Nat.zero_le _) (bodyL_fit fB))
   have hl2 : Z.length = k := by rw [hZ]; simp only [List.length_append, List.length_replicate, fourL_len]; omega
   refine s_copyG (i := 0) (off := 0) rfl rfl rfl rfl Try.underlying22 ti5 (.t rfl rfl) (.t rfl rfl) rfl hG (by omega) (by simp only [List.length_append, List.length_replicate, fourL_len]; omega) (by rw [fourL_len]; omega) hS11 rfl (hG5.sl (by rw [fourL_len]; omega) (fourL_fit _)) (hS11.has (i := 1) rfl) fun sg6 w7 hG6 hS12 => ?_
   have hS13 : St w0 [] (fl [sg6, sg5]) w7 := hS12
   rw [show List.take 0 (List.replicate 8 0 ++ bodyL (B.take i)) ++ (fourL (k - 8)) ++ List.drop (0 + (fourL (k - 8)).length) (List.replicate 8 0 ++ bodyL (B.take i)) = Z from (by rw [hte, show k - 8 = (bodyL B).length from by omega, hZ]; exact zer_four _ _)] at hG6
   refine wpList_nil ?_
   refine x_tn ?_
   refine k_reb [(2, .slice none 0 0), (3, .slice ga k gc)] ⟨rfl, rfl, trivial⟩ fun G8 => ?_
   refine wp_seq ?_
   refine k_only ?_
   refine h_start (C := fun x => Has x (fl [sg6, sg5])) mixed hS13 (L := [false, false, false, false, false, false, false]) rfl fun w8 hS14 => ?_
   have hH1 : Has w8 (fl [sg6, sg5]) := (Has.cons_ (hS14.has (i := 0) rfl) (Has.cons_ (hS14.has (i := 1) rfl) Has.nil_))
   refine h_take (i := 0) NoP.only rfl rfl rfl (by kernel_rfl) (L' := [true, false, false, false, false, false, false]) rfl (r_move rfl (.t rfl rfl)) hH1 ?_
   have hq1 := ((hG6.sl (by omega) hZf)).le
   have hx2 : Sl .u8 ga gc (Z.take 4) sg6 := (hG6.sl (by omega) hZf).take_ (by omega) (by omega) (by omega)
   have hn1 : (Z.take 4).length = 4 := by rw [List.length_take]; omega
   refine h_take (i := 1) NoP.only rfl rfl rfl (by kernel_rfl) (L' := [true, true, false, false, false, false, false]) rfl (Rn.asSl (ad' := ga) (p' := (Z.take 4).length) (q' := gc) (by simp [cutA]) (by omega) (by omega) (r_cutl rfl Try.underlying22 ti5 (.t rfl rfl) (hG6.sl (by omega) hZf) hl2 .n (.s .c) .n (lw := 0) (hh := 4) (m := gc) (by omega) (by omega) (by omega) (by omega))) hH1 ?_
   refine h_take (i := 3) NoP.only rfl rfl rfl (by kernel_rfl) (L' := [true, true, false, true, false, false, false]) rfl (r_move rfl (.t rfl rfl)) hH1 ?_
   have hq2 := ((hG6.sl (by omega) hZf)).le
   have hx3 : Sl .u8 (cutA ga 8 gc) (gc - 8) (Z.drop 8) sg6 := (hG6.sl (by omega) hZf).drop_ (by omega)
   have hn2 : (Z.drop 8).length = k - 8 := by simp only [List.length_drop, List.length_take] <;> omega
   refine h_take (i := 4) NoP.only rfl rfl rfl (by kernel_rfl) (L' := [true, true, false, true, true, false, false]) rfl (Rn.asSl (p' := (Z.drop 8).length) rfl (by omega) rfl (r_cutl rfl Try.underlying22 ti5 (.t rfl rfl) (hG6.sl (by omega) hZf) hl2 (.s .c) .n .n (lw := 8) (hh := k) (m := gc) (by omega) (by omega) (by omega) (by omega))) hH1 ?_
   refine h_all (rs := [2]) (by kernel_rfl) (by simp) ?_
   refine List.forall_mem_cons.2 ⟨h_op rfl (wanted_none rfl) ?_, by simp⟩
   refine s_call rfl rfl rfl (vs := [.slice ga ((Z.take 4).length) gc]) ⟨(.t rfl rfl), trivial⟩ cb11 (Sum_ok w8 ga gc (Z.take 4) sg6 hx2 (Old.of_piece (i := 0) (xs := []) [] hS14 rfl rfl (by decide)) ) ?_
   rintro _ w9 ⟨rfl, ht3⟩
   have hS15 : St w0 [] (fl [sg6, sg5]) w9 := hS14.callL (xs := []) (xs' := []) (zs := []) [] rfl (by decide) ht3 rfl rfl
   refine wpList_nil ?_
   refine x_tn ?_
   have hH2 : Has w9 (fl [sg6, sg5]) := (Has.cons_ (hS15.has (i := 0) rfl) (Has.cons_ (hS15.has (i := 1) rfl) Has.nil_))
   refine ⟨hH2, ?_⟩
   refine h_all (rs := [5]) (by kernel_rfl) (by simp) ?_
   refine List.forall_mem_cons.2 ⟨h_op rfl (wanted_none rfl) ?_, by simp⟩
   have hcm1 : crcM 0 (Z.take 4) ≤ 4294967295 := Nat.sub_le _ _
   refine s_call rfl rfl rfl (vs := [.int .u32 (((crcM 0 ((Z.take 4)) : Nat) : Int)), .slice (cutA ga 8 gc) ((Z.drop 8).length) (gc - 8)]) ⟨(.t rfl rfl), (.t rfl rfl), trivial⟩ cb41 (more_ok w9 (crcM 0 ((Z.take 4))) (by first | omega | exact Nat.le_of_lt_succ crcM_lt) (cutA ga 8 gc) (gc - 8) (Z.drop 8) sg6 hx3 (Old.of_piece (i := 0) (xs := []) [] hS15 rfl rfl (by decide)) ) ?_
   rintro _ w10 ⟨rfl, ht4⟩
   have hS16 : St w0 [] (fl [sg6, sg5]) w10 := hS15.callL (xs := []) (xs' := []) (zs := []) [] rfl (by decide) ht4 rfl rfl
   refine wpList_nil ?_
   refine x_tn ?_
   have hH3 : Has w10 (fl [sg6, sg5]) := (Has.cons_ (hS16.has (i := 0) rfl) (Has.cons_ (hS16.has (i := 1) rfl) Has.nil_))
   refine ⟨hH3, ?_⟩
   refine h_take (i := 6) NoP.only rfl rfl rfl (by kernel_rfl) (L' := [true, true, true, true, true, true, true]) rfl (r_assign rfl (.t rfl rfl)) hH3 ?_
   refine h_done (by kernel_rfl) ?_
   refine only_n ?_
   refine x_tn ?_
   refine k_reb [(2, .slice none 0 0), (3, .slice ga k gc), (6, .int .u32 (((crcM (crcM 0 ((Z.take 4))) ((Z.drop 8)) : Nat) : Int)))] ⟨rfl, rfl, rfl, trivial⟩ fun G9 => ?_
   refine wp_seq ?_
   refine k_only ?_
   refine h_start (C := fun x => Has x (fl [])) mixed hS16 (L := [false, false, false, false, false]) rfl fun w11 hS17 => ?_
   have hH4 : Has w11 (fl []) := Has.nil_
   refine h_take (i := 0) NoP.only rfl rfl rfl (by kernel_rfl) (L' := [true, false, false, false, false]) rfl (r_move rfl (.t rfl rfl)) hH4 ?_
   have hq3 := ((hG6.sl (by omega) hZf)).le
   have hx4 : Sl .u8 (cutA ga 4 gc) (gc - 4) (Z.drop 4) sg6 := (hG6.sl (by omega) hZf).drop_ (by omega)
   have hn3 : (Z.drop 4).length = k - 4 := by simp only [List.length_drop, List.length_take] <;> omega
   refine h_take (i := 1) NoP.only rfl rfl rfl (by kernel_rfl) (L' := [true, true, false, false, false]) rfl (Rn.asSl (p' := (Z.drop 4).length) rfl (by omega) rfl (r_cutl rfl Try.underlying22 ti5 (.t rfl rfl) (hG6.sl (by omega) hZf) hl2 (.s .c) .n .n (lw := 4) (hh := k) (m := gc) (by omega) (by omega) (by omega) (by omega))) hH4 ?_
   refine h_take (i := 2) NoP.only rfl rfl rfl (by kernel_rfl) (L' := [true, true, true, false, false]) rfl (r_move rfl (.t rfl rfl)) hH4 ?_
   refine h_all (rs := [3]) (by kernel_rfl) (by simp) ?_
   refine List.forall_mem_cons.2 ⟨h_op rfl (wanted_none rfl) ?_, by simp⟩
   have hcm2 : crcM (crcM 0 (Z.take 4)) (Z.drop 8) ≤ 4294967295 := Nat.sub_le _ _
   refine s_call rfl rfl rfl (vs := [.int .u32 (((crcM (crcM 0 ((Z.take 4))) ((Z.drop 8)) : Nat) : Int))]) ⟨(.t rfl rfl), trivial⟩ cb64 (four_ok w11 (crcM (crcM 0 ((Z.take 4))) ((Z.drop 8))) (by omega) ) ?_
   rintro _ w12 ⟨ra3, rc3, sg7, rfl, hG7, ht5⟩
   have hS18 : St w0 [] (fl [sg6, sg5, sg7]) w12 := hS17.callL (xs := []) (xs' := []) (zs := [sg7]) [] rfl (by decide) ht5 rfl rfl
   refine wpList_nil ?_
   refine x_tn ?_
   have hH5 : Has w12 (fl []) := Has.nil_
   refine ⟨hH5, ?_⟩
   refine h_all (rs := [4]) (by kernel_rfl) (by simp) ?_
   refine List.forall_mem_cons.2 ⟨h_op rfl (wanted_none rfl) ?_, by simp⟩
   refine s_copyG (i := 0) (off := 4) rfl rfl rfl rfl Try.underlying22 ti5 (.t rfl rfl) (.t rfl rfl) rfl hG6 (by omega) (by rw [fourL_len]; omega) (by rw [fourL_len]; omega) hS18 rfl (hG7.sl (by rw [fourL_len]; omega) (fourL_fit _)) (hS18.has (i := 2) rfl) fun sg8 w13 hG8 hS19 => ?_
   have hS20 : St w0 [] (fl [sg8, sg5, sg7]) w13 := hS19
   rw [show List.take 4 Z ++ (fourL (crcM (crcM 0 ((Z.take 4))) ((Z.drop 8)))) ++ List.drop (4 + (fourL (crcM (crcM 0 ((Z.take 4))) ((Z.drop 8)))).length) Z = recL B from (by rw [hZ, head_four, tail_four]; exact zer_four2 _ _ _)] at hG8
   refine wpList_nil ?_
   refine x_tn ?_
   have hH6 : Has w13 (fl []) := Has.nil_
   refine ⟨hH6, ?_⟩
   refine h_done (by kernel_rfl) ?_
   refine only_n ?_
   refine x_tn ?_
   refine k_reb [(2, .slice none 0 0), (3, .slice ga k gc)] ⟨rfl, rfl, trivial⟩ fun G10 => ?_
   refine wp_seq ?_
   refine k_reg ?_
   refine s_val hS20 rfl rfl (r_move rfl (.t rfl rfl)) ?_
   refine s_val hS20 rfl rfl (r_assign rfl (.t rfl rfl)) ?_
   refine wpList_nil ?_
   refine x_tn ?_
   refine k_reb [(2, .slice ga k gc)] ⟨rfl, trivial⟩ fun G11 => ?_
   refine wp_ret ?_
   refine k_ret1 Try.results57 rfl rfl ?_
   refine ⟨_, rfl, ?_⟩
   have hkr : k = (recL B).length := by rw [recL_len]; omega
   have hS21 : St w0 [] (fl [sg8]) w13 := hS20.pick [0] rfl (by decide)
   exact ⟨_, _, _, (by first | rfl | (congr 1; simp; done) | (congr 1)), hG8, hS21⟩

end Go.Proofs.Ytdmiklegahdafaa
