/- Contracts of functions of the program, each walked once. -/
import Derived.Test.YtdmiklegahdafaaFnL
namespace Go.Proofs.Ytdmiklegahdafaa
open Go Go.RowKit K
namespace FM
theorem mixed : Try.prog.follows .mixedOrders = true := by kernel_rfl
theorem cb11 : callable Try.prog 11 = true := by kernel_rfl
theorem cb16 : callable Try.prog 16 = true := by kernel_rfl
theorem cb19 : callable Try.prog 19 = true := by kernel_rfl
theorem cb25 : callable Try.prog 25 = true := by kernel_rfl
theorem cb27 : callable Try.prog 27 = true := by kernel_rfl
theorem cb37 : callable Try.prog 37 = true := by kernel_rfl
theorem one22 : One Try.prog 22 = true := by kernel_rfl
theorem one56 : One Try.prog 56 = true := by kernel_rfl
theorem ti22 : (Try.prog.info? 22).map (fun i => (i.zero, i.size, i.bytes)) = some (some (.slice none 0 0), 1, 24) := by kernel_rfl
theorem ti5 : (Try.prog.info? 5).map (fun i => (i.zero, i.size, i.bytes)) = some (some (.int .u8 0), 1, 1) := by kernel_rfl
theorem ti56 : (Try.prog.info? 56).map (fun i => (i.zero, i.size, i.bytes)) = some (some (.slice none 0 0), 1, 24) := by kernel_rfl

end FM
open FM
attribute [local irreducible] Go.wpList Go.wpQuiet Go.wpStill Go.wpAny Go.Code.wp
set_option maxRecDepth 10000
set_option maxHeartbeats 8000000
set_option linter.unusedVariables false
set_option linter.unusedSimpArgs false
theorem works_ok (w0 : World) :
  Calls Try.prog 12 #[] w0 (Ret fun v w' => v = .bool true ∧ St w0 [] (fl []) w') := by
 refine k_enter (vs := []) Try.func12 rfl Try.ntmps12 rfl ?_
 have hS : St w0 [] (fl []) w0 := St.init w0
 refine wp_seq ?_
 refine k_reg ?_
 refine s_val hS rfl rfl (r_assign rfl .c) ?_
 refine wpList_nil ?_
 refine x_tn ?_
 refine wp_seq ?_
 refine k_reg ?_
 refine s_call rfl rfl rfl (vs := [.int .i64 1000]) ⟨.c, trivial⟩ cb25 (New_lv w0 1000 (by omega) ) ?_
 rintro _ w1 ⟨d1, m1, D1, sm1, hN1, rfl, hM1, ht1⟩
 have hS3 : St w0 [] (fl [(pk d1 m1 D1), sm1]) w1 := hS.callL (xs := []) (xs' := []) (zs := [(pk d1 m1 D1), sm1]) [] rfl (by decide) ht1 rfl rfl
 have hS2 : St w0 [] (fl [(pk d1 m1 D1), sm1]) w1 := hS3.pick [0, 1] rfl (by decide)
 have hu1 := hN1.tot
 have hu2 := hN1.len
 have hu3 := hN1.wr
 have hu4 := hN1.room
 refine s_val hS2 rfl rfl (r_move rfl (.t rfl rfl)) ?_
 refine s_val hS2 rfl rfl (r_extract rfl (.t rfl rfl) rfl) ?_
 refine s_val hS2 rfl rfl (r_extract rfl (.t rfl rfl) rfl) ?_
 refine s_val hS2 rfl rfl (r_assign rfl (.t rfl rfl)) ?_
 refine s_val hS2 rfl rfl (r_assign rfl (.t rfl rfl)) ?_
 refine wpList_nil ?_
 refine x_tn ?_
 refine k_reb [(0, .bool false), (1, .pointer (some ⟨d1, 0, none⟩)), (2, .int .i64 0)] ⟨rfl, rfl, rfl, trivial⟩ fun G1 => ?_
 refine wp_seq ?_
 refine wp_seq ?_
 refine k_reg ?_
 refine s_val hS2 rfl rfl (r_move rfl (.t rfl rfl)) ?_
 refine s_call rfl rfl rfl (vs := [.int .i64 0]) ⟨(.t rfl rfl), trivial⟩ cb16 (num_ok w1 0) ?_
 rintro _ w1 ⟨rfl, rfl⟩
 refine s_val hS2 rfl rfl (r_cmp_f rfl rfl (.t rfl rfl) .c (show ¬ (¬ 0 = 0) from by omega)) ?_
 refine s_val hS2 rfl rfl (r_move rfl (.t rfl rfl)) ?_
 refine s_valg hS2 (wanted_of (j := 3) (b := false) (d := 19) rfl rfl rfl rfl) rfl (r_move rfl (.t rfl rfl)) ?_
 refine s_valg hS2 (wanted_of (j := 3) (b := false) (d := 19) rfl rfl rfl rfl) rfl (r_eqnilp rfl Try.underlying33 (.t rfl rfl) .c rfl) ?_
 refine s_val hS2 rfl rfl (r_pick rfl (.t rfl rfl) (.t rfl rfl)) ?_
 refine wpList_nil ?_
 refine x_tn ?_
 refine k_reb [(0, .bool false), (1, .pointer (some ⟨d1, 0, none⟩)), (22, .bool false)] ⟨rfl, rfl, rfl, trivial⟩ fun G2 => ?_
 refine k_f (.t rfl rfl) ?_
 refine wp_skip ?_
 refine x_tn ?_
 refine k_reb [(0, .bool false), (1, .pointer (some ⟨d1, 0, none⟩))] ⟨rfl, rfl, trivial⟩ fun G3 => ?_
 refine wp_seq ?_
 refine k_reg ?_
 refine s_val hS2 rfl rfl (r_move rfl (.t rfl rfl)) ?_
 refine s_call rfl rfl rfl (vs := [.pointer (some ⟨d1, 0, none⟩), .string (⟨#[106]⟩)]) ⟨(.t rfl rfl), .c, trivial⟩ cb19 (Open_new w1 _ d1 m1 D1 hN1.lv sm1 hM1 (⟨#[106]⟩ : ByteArray) (by decide) hN1.none (by omega) (by omega) (by omega) (hS2.give (xs := [(pk d1 m1 D1), sm1]) [0, 1] rfl (by decide))) ?_
 rintro _ w2 ⟨D2, sm2, l1, oa1, oc1, sg1, hup1, hM2, rfl, hO1, ht2⟩
 have hS5 : St w0 [] (fl [(pk d1 m1 D2), sm2, (lq l1 d1 (⟨#[106]⟩) noR), sg1]) w2 := hS2.callL (xs := [(pk d1 m1 D1), sm1]) (xs' := [(pk d1 m1 D2), sm2]) (zs := [(lq l1 d1 (⟨#[106]⟩) noR), sg1]) [0, 1] rfl (by decide) ht2 rfl rfl
 have hS6 : St w0 [] (fl [(pk d1 m1 D2), (lq l1 d1 (⟨#[106]⟩) noR), sm2, sg1]) w2 := hS5.pick [0, 2, 1, 3] rfl (by decide)
 have hnr1 : noR.length = 0 := rfl
 have hnr2 : (logL noR).length = 8 := rfl
 have hu5 := hup1.tot
 have hu6 := hup1.wr
 have hu7 := hup1.room
 have hu8 := hup1.len
 have hnl1 : ([] : List Nat).length = 0 := rfl
 refine s_val hS6 rfl rfl (r_move rfl (.t rfl rfl)) ?_
 refine s_val hS6 rfl rfl (r_extract rfl (.t rfl rfl) rfl) ?_
 refine s_val hS6 rfl rfl (r_extract rfl (.t rfl rfl) rfl) ?_
 refine s_val hS6 rfl rfl (r_extract rfl (.t rfl rfl) rfl) ?_
 refine s_val hS6 rfl rfl (r_assign rfl (.t rfl rfl)) ?_
 refine s_val hS6 rfl rfl (r_assign rfl (.t rfl rfl)) ?_
 refine s_val hS6 rfl rfl (r_assign rfl (.t rfl rfl)) ?_
 refine wpList_nil ?_
 refine x_tn ?_
 refine k_reb [(0, .bool false), (1, .pointer (some ⟨d1, 0, none⟩)), (3, .pointer (some ⟨l1, 0, none⟩)), (5, .int .i64 0)] ⟨rfl, rfl, rfl, rfl, trivial⟩ fun G4 => ?_
 refine wp_seq ?_
 refine wp_seq ?_
 refine k_reg ?_
 refine s_val hS6 rfl rfl (r_move rfl (.t rfl rfl)) ?_
 refine s_call rfl rfl rfl (vs := [.int .i64 0]) ⟨(.t rfl rfl), trivial⟩ cb16 (num_ok w2 0) ?_
 rintro _ w2 ⟨rfl, rfl⟩
 refine s_val hS6 rfl rfl (r_cmp_f rfl rfl (.t rfl rfl) .c (show ¬ (¬ 0 = 0) from by omega)) ?_
 refine s_val hS6 rfl rfl (r_move rfl (.t rfl rfl)) ?_
 refine s_valg hS6 (wanted_of (j := 3) (b := false) (d := 32) rfl rfl rfl rfl) rfl (r_move rfl (.t rfl rfl)) ?_
 refine s_valg hS6 (wanted_of (j := 3) (b := false) (d := 32) rfl rfl rfl rfl) rfl (r_eqnilp rfl Try.underlying43 (.t rfl rfl) .c rfl) ?_
 refine s_val hS6 rfl rfl (r_pick rfl (.t rfl rfl) (.t rfl rfl)) ?_
 refine wpList_nil ?_
 refine x_tn ?_
 refine k_reb [(0, .bool false), (1, .pointer (some ⟨d1, 0, none⟩)), (3, .pointer (some ⟨l1, 0, none⟩)), (35, .bool false)] ⟨rfl, rfl, rfl, rfl, trivial⟩ fun G5 => ?_
 refine k_f (.t rfl rfl) ?_
 refine wp_skip ?_
 refine x_tn ?_
 refine k_reb [(0, .bool false), (1, .pointer (some ⟨d1, 0, none⟩)), (3, .pointer (some ⟨l1, 0, none⟩))] ⟨rfl, rfl, rfl, trivial⟩ fun G6 => ?_
 refine wp_seq ?_
 refine k_reg ?_
 refine s_val hS6 rfl rfl (r_move rfl (.t rfl rfl)) ?_
 refine s_lit rfl rfl rfl Try.underlying22 ti5 (vs := [(0, .int .u8 97)]) ⟨rfl, .c, trivial⟩ (L := [97]) rfl (by omega) rfl hS6 fun blk1 w3 hb1 hB1 hS7 => ?_
 have hS8 : St w0 [] (fl [(pk d1 m1 D2), (lq l1 d1 (⟨#[106]⟩) noR), [(blk1, .cells (encN .u8 ([97])) 5 (0, 0))], sm2, sg1]) w3 := hS7.push 2 rfl
 refine s_convsame (m := 2) rfl rfl rfl Try.underlying22 Try.underlying5 (.t rfl rfl) hS8 rfl (h' := fl [(pk d1 m1 D2), (lq l1 d1 (⟨#[106]⟩) noR), [(blk1, .cells (encN .u8 ([97])) 5 ((encN .u8 ([97])).size, (encN .u8 ([97])).size + 1))], sm2, sg1]) rfl fun w4 hS10 => ?_
 obtain ⟨sg2, hx1, hS9⟩ : ∃ sg2 : Hp, Sl .u8 (some ⟨blk1, 0, none⟩) 1 ([97]) sg2 ∧ St w0 [] (fl [(pk d1 m1 D2), (lq l1 d1 (⟨#[106]⟩) noR), sm2, sg1, sg2]) w4 := ⟨_, Sl.of_enc (by decide) (by decide) (by intro x hx; simp only [List.mem_cons, List.not_mem_nil, or_false] at hx; first | (subst hx; first | omega | (simp only [maxK]; omega)) | (rcases hx with rfl | rfl <;> first | omega | (simp only [maxK]; omega))), hS10.pick [0, 1, 3, 4, 2] rfl (by decide)⟩
 refine s_litV rfl rfl rfl Try.underlying56 ti22 rfl (vs := [(0, .slice (some ⟨blk1, 0, none⟩) 1 1), (1, .slice none 0 0)]) ⟨rfl, (.t rfl rfl), ⟨rfl, .c, trivial⟩⟩ (L := [.slice (some ⟨blk1, 0, none⟩) 1 1, .slice none 0 0]) rfl (by decide) rfl hS9 fun blk2 w5 hb2 hB2 hS11 => ?_
 have hS12 : St w0 [] (fl [(pk d1 m1 D2), (lq l1 d1 (⟨#[106]⟩) noR), [(blk2, .cells #[.slice (some ⟨blk1, 0, none⟩) 1 1, .slice none 0 0] 22 (0, 0))], sm2, sg1, sg2]) w5 := hS11.push 2 rfl
 have hb9 : (bodyL [[97], []]).length = 9 := rfl
 have hl8 : (logL noR).length = 8 := rfl
 obtain ⟨sg3, us1, hX1, hS13⟩ : ∃ (sg3 : Hp) (us1 : List Value), RwV R1 (some ⟨blk2, 0, none⟩) 2 us1 ([([97]), []] : List (List Nat)) sg3 ∧ St w0 [] (fl [(pk d1 m1 D2), (lq l1 d1 (⟨#[106]⟩) noR), sm2, sg1, sg3]) w5 := ⟨_, [.slice (some ⟨blk1, 0, none⟩) 1 1, .slice none 0 0], ⟨(SlV.lit (T := 22) (f := (0, 0)) (by simp) (by simp)).mono (fun p hp => by simp at hp; simp [hp]), ⟨⟨_, _, (by first | rfl | (congr 1; done) | (congr 1; first | omega | (simp; done))), (hx1).mono (fun p hp => by simp [List.mem_append, hp])⟩, ⟨⟨none, 0, rfl, Sl.nil⟩, trivial⟩⟩⟩, (hS12.merge (L' := [(pk d1 m1 D2), (lq l1 d1 (⟨#[106]⟩) noR), ([(blk2, .cells #[.slice (some ⟨blk1, 0, none⟩) 1 1, .slice none 0 0] 22 (0, 0))] ++ sg2), sm2, sg1, []]) 2 5 rfl rfl rfl rfl).pick [0, 1, 3, 4, 2] rfl (by decide)⟩
 refine s_call rfl rfl rfl (vs := [.pointer (some ⟨l1, 0, none⟩), .slice (some ⟨blk2, 0, none⟩) 2 2]) ⟨(.t rfl rfl), (.t rfl rfl), trivial⟩ cb27 (LAppend_lv w5 _ d1 m1 D2 hup1.lv l1 noR sm2 hM2 (⟨#[106]⟩ : ByteArray) hup1.at_ (some ⟨blk2, 0, none⟩) 2 _ (([([97]), []] : List (List Nat))) sg3 hX1 (Old.of_piece (i := 4) (xs := [(lq l1 d1 (⟨#[106]⟩) noR), (pk d1 m1 D2), sm2]) [1, 0, 2] hS13 rfl rfl (by decide)) ⟨by decide, by decide⟩ (by omega) (by omega) (by omega) (by omega) (hS13.give (xs := [(lq l1 d1 (⟨#[106]⟩) noR), (pk d1 m1 D2), sm2]) [1, 0, 2] rfl (by decide))) ?_
 rintro _ w6 ⟨D3, sm3, hup2, rfl, hM3, ht3⟩
 have hS14 : St w0 [] (fl [(pk d1 m1 D3), [(l1, .cells #[.pointer (some ⟨d1, 0, none⟩), .string (⟨#[106]⟩), .int .i64 ((((lg (noR ++ [(([([97]), []] : List (List Nat)))])).size : Nat) : Int)), .int .i64 ((((lg (noR ++ [(([([97]), []] : List (List Nat)))])).count : Nat) : Int)), .bool ((lg (noR ++ [(([([97]), []] : List (List Nat)))])).off)] 92 (0, 0))], sm3, sg1, sg3]) w6 := hS13.callL (xs := [(lq l1 d1 (⟨#[106]⟩) noR), (pk d1 m1 D2), sm2]) (xs' := [[(l1, .cells #[.pointer (some ⟨d1, 0, none⟩), .string (⟨#[106]⟩), .int .i64 ((((lg (noR ++ [(([([97]), []] : List (List Nat)))])).size : Nat) : Int)), .int .i64 ((((lg (noR ++ [(([([97]), []] : List (List Nat)))])).count : Nat) : Int)), .bool ((lg (noR ++ [(([([97]), []] : List (List Nat)))])).off)] 92 (0, 0))], (pk d1 m1 D3), sm3]) (zs := []) [1, 0, 2] rfl (by decide) ht3 rfl rfl
 have hu9 := hup2.tot
 have hu10 := hup2.wr
 have hu11 := hup2.room
 have hu12 := hup2.same
 have hln1 := logL_len_snoc noR (([([97]), []] : List (List Nat)))
 have hlm1 : (noR ++ [(([([97]), []] : List (List Nat)))]).length = noR.length + 1 := by rw [List.length_append]; rfl
 refine s_val hS14 rfl rfl (r_assign rfl (.t rfl rfl)) ?_
 refine wpList_nil ?_
 refine x_tn ?_
 refine k_reb [(0, .bool false), (1, .pointer (some ⟨d1, 0, none⟩)), (6, .int .i64 0)] ⟨rfl, rfl, rfl, trivial⟩ fun G7 => ?_
 refine wp_seq ?_
 refine k_reg ?_
 refine s_val hS14 rfl rfl (r_move rfl (.t rfl rfl)) ?_
 refine s_call rfl rfl rfl (vs := [.pointer (some ⟨d1, 0, none⟩), .string (⟨#[106]⟩)]) ⟨(.t rfl rfl), .c, trivial⟩ cb37 (Sure_lv w6 _ d1 m1 D3 hup2.lv sm3 hM3 (⟨#[106]⟩ : ByteArray) hup2.at_ (hS14.give (xs := [(pk d1 m1 D3), sm3]) [0, 2] rfl (by decide))) ?_
 rintro _ w7 ⟨rfl, ht4⟩
 have hS15 : St w0 [] (fl [(pk d1 m1 D3), [(l1, .cells #[.pointer (some ⟨d1, 0, none⟩), .string (⟨#[106]⟩), .int .i64 ((((lg (noR ++ [(([([97]), []] : List (List Nat)))])).size : Nat) : Int)), .int .i64 ((((lg (noR ++ [(([([97]), []] : List (List Nat)))])).count : Nat) : Int)), .bool ((lg (noR ++ [(([([97]), []] : List (List Nat)))])).off)] 92 (0, 0))], sm3, sg1, sg3]) w7 := hS14.callL (xs := [(pk d1 m1 D3), sm3]) (xs' := [(pk d1 m1 D3), sm3]) (zs := []) [0, 2] rfl (by decide) ht4 rfl rfl
 refine s_val hS15 rfl rfl (r_move rfl (.t rfl rfl)) ?_
 refine s_val hS15 rfl rfl (r_extract rfl (.t rfl rfl) rfl) ?_
 refine s_val hS15 rfl rfl (r_extract rfl (.t rfl rfl) rfl) ?_
 refine s_val hS15 rfl rfl (r_assign rfl (.t rfl rfl)) ?_
 refine s_val hS15 rfl rfl (r_assign rfl (.t rfl rfl)) ?_
 refine wpList_nil ?_
 refine x_tn ?_
 refine k_reb [(0, .bool false), (1, .pointer (some ⟨d1, 0, none⟩)), (6, .int .i64 0), (7, .int .i64 ((((logL (noR ++ [(([([97]), []] : List (List Nat)))])).length : Nat) : Int)))] ⟨rfl, rfl, rfl, rfl, trivial⟩ fun G8 => ?_
 refine wp_seq ?_
 refine k_reg ?_
 refine s_val hS15 rfl rfl (r_move rfl (.t rfl rfl)) ?_
 refine s_call rfl rfl rfl (vs := [.pointer (some ⟨d1, 0, none⟩), .string (⟨#[106]⟩)]) ⟨(.t rfl rfl), .c, trivial⟩ cb19 (Open_full w7 _ d1 m1 D3 hup2.lv sm3 hM3 (⟨#[106]⟩ : ByteArray) hup2.at_ (fun LL h => by simp at h; subst h; exact ⟨by decide, by decide⟩) (by omega) (hS15.give (xs := [(pk d1 m1 D3), sm3]) [0, 2] rfl (by decide))) ?_
 rintro _ w8 ⟨sm4, l2, oa2, oc2, sg4, hM4, rfl, hO2, ht5⟩
 have hS17 : St w0 [] (fl [(pk d1 m1 D3), [(l1, .cells #[.pointer (some ⟨d1, 0, none⟩), .string (⟨#[106]⟩), .int .i64 ((((lg (noR ++ [(([([97]), []] : List (List Nat)))])).size : Nat) : Int)), .int .i64 ((((lg (noR ++ [(([([97]), []] : List (List Nat)))])).count : Nat) : Int)), .bool ((lg (noR ++ [(([([97]), []] : List (List Nat)))])).off)] 92 (0, 0))], sm4, sg1, sg3, [(l2, .cells #[.pointer (some ⟨d1, 0, none⟩), .string (⟨#[106]⟩), .int .i64 ((((lg ((noR ++ [(([([97]), []] : List (List Nat)))]))).size : Nat) : Int)), .int .i64 ((((lg ((noR ++ [(([([97]), []] : List (List Nat)))]))).count : Nat) : Int)), .bool ((lg ((noR ++ [(([([97]), []] : List (List Nat)))]))).off)] 92 (0, 0))], sg4]) w8 := hS15.callL (xs := [(pk d1 m1 D3), sm3]) (xs' := [(pk d1 m1 D3), sm4]) (zs := [[(l2, .cells #[.pointer (some ⟨d1, 0, none⟩), .string (⟨#[106]⟩), .int .i64 ((((lg ((noR ++ [(([([97]), []] : List (List Nat)))]))).size : Nat) : Int)), .int .i64 ((((lg ((noR ++ [(([([97]), []] : List (List Nat)))]))).count : Nat) : Int)), .bool ((lg ((noR ++ [(([([97]), []] : List (List Nat)))]))).off)] 92 (0, 0))], sg4]) [0, 2] rfl (by decide) ht5 rfl rfl
 have hS18 : St w0 [] (fl [(pk d1 m1 D3), [(l1, .cells #[.pointer (some ⟨d1, 0, none⟩), .string (⟨#[106]⟩), .int .i64 ((((lg (noR ++ [(([([97]), []] : List (List Nat)))])).size : Nat) : Int)), .int .i64 ((((lg (noR ++ [(([([97]), []] : List (List Nat)))])).count : Nat) : Int)), .bool ((lg (noR ++ [(([([97]), []] : List (List Nat)))])).off)] 92 (0, 0))], [(l2, .cells #[.pointer (some ⟨d1, 0, none⟩), .string (⟨#[106]⟩), .int .i64 ((((lg ((noR ++ [(([([97]), []] : List (List Nat)))]))).size : Nat) : Int)), .int .i64 ((((lg ((noR ++ [(([([97]), []] : List (List Nat)))]))).count : Nat) : Int)), .bool ((lg ((noR ++ [(([([97]), []] : List (List Nat)))]))).off)] 92 (0, 0))], sm4, sg1, sg3, sg4]) w8 := hS17.pick [0, 1, 5, 2, 3, 4, 6] rfl (by decide)
 refine s_val hS18 rfl rfl (r_move rfl (.t rfl rfl)) ?_
 refine s_val hS18 rfl rfl (r_extract rfl (.t rfl rfl) rfl) ?_
 refine s_val hS18 rfl rfl (r_extract rfl (.t rfl rfl) rfl) ?_
 refine s_val hS18 rfl rfl (r_extract rfl (.t rfl rfl) rfl) ?_
 refine s_val hS18 rfl rfl (r_assign rfl (.t rfl rfl)) ?_
 refine s_val hS18 rfl rfl (r_assign rfl (.t rfl rfl)) ?_
 refine s_val hS18 rfl rfl (r_assign rfl (.t rfl rfl)) ?_
 refine wpList_nil ?_
 refine x_tn ?_
 refine k_reb [(0, .bool false), (6, .int .i64 0), (7, .int .i64 ((((logL (noR ++ [(([([97]), []] : List (List Nat)))])).length : Nat) : Int))), (10, .slice oa2 (((noR ++ [(([([97]), []] : List (List Nat)))])).length) oc2), (11, .int .i64 0)] ⟨rfl, rfl, rfl, rfl, rfl, trivial⟩ fun G9 => ?_
 refine wp_seq ?_
 refine k_reg ?_
 refine s_val hS18 rfl rfl (r_move rfl (.t rfl rfl)) ?_
 refine s_call rfl rfl rfl (vs := [.int .i64 0]) ⟨(.t rfl rfl), trivial⟩ cb16 (num_ok w8 0) ?_
 rintro _ w8 ⟨rfl, rfl⟩
 refine s_val hS18 rfl rfl (r_cmp_t rfl rfl (.t rfl rfl) .c (show 0 = 0 from by omega)) ?_
 refine s_val hS18 rfl rfl (r_move rfl (.t rfl rfl)) ?_
 refine s_valg hS18 (wanted_of (j := 3) (b := true) (d := 55) rfl rfl rfl rfl) rfl (r_move rfl (.t rfl rfl)) ?_
 refine s_valg hS18 (wanted_of (j := 3) (b := true) (d := 55) rfl rfl rfl rfl) rfl (r_cmp_t rfl rfl (.t rfl rfl) .c (show (((logL (noR ++ [(([([97]), []] : List (List Nat)))])).length : Nat) : Int) = 25 from by omega)) ?_
 refine s_val hS18 rfl rfl (r_pick rfl (.t rfl rfl) (.t rfl rfl)) ?_
 refine s_val hS18 rfl rfl (r_move rfl (.t rfl rfl)) ?_
 refine s_valg hS18 (wanted_of (j := 7) (b := true) (d := 59) rfl rfl rfl rfl) rfl (r_move rfl (.t rfl rfl)) ?_
 refine s_callg (wanted_of (j := 7) (b := true) (d := 59) rfl rfl rfl rfl) rfl rfl (vs := [.int .i64 0]) ⟨(.t rfl rfl), trivial⟩ cb16 (num_ok w8 0) ?_
 rintro _ w8 ⟨rfl, rfl⟩
 refine s_valg hS18 (wanted_of (j := 7) (b := true) (d := 59) rfl rfl rfl rfl) rfl (r_cmp_t rfl rfl (.t rfl rfl) .c (show 0 = 0 from by omega)) ?_
 refine s_val hS18 rfl rfl (r_pick rfl (.t rfl rfl) (.t rfl rfl)) ?_
 refine s_val hS18 rfl rfl (r_move rfl (.t rfl rfl)) ?_
 refine s_valg hS18 (wanted_of (j := 12) (b := true) (d := 64) rfl rfl rfl rfl) rfl (r_move rfl (.t rfl rfl)) ?_
 refine s_valg hS18 (wanted_of (j := 12) (b := true) (d := 64) rfl rfl rfl rfl) rfl (r_len rfl rfl Try.underlying30 (.t rfl rfl)) ?_
 refine s_valg hS18 (wanted_of (j := 12) (b := true) (d := 64) rfl rfl rfl rfl) rfl (r_cmp_t rfl rfl (.t rfl rfl) .c (show ((((noR ++ [(([([97]), []] : List (List Nat)))])).length : Nat) : Int) = 1 from rfl)) ?_
 refine s_val hS18 rfl rfl (r_pick rfl (.t rfl rfl) (.t rfl rfl)) ?_
 refine s_val hS18 rfl rfl (r_move rfl (.t rfl rfl)) ?_
 refine s_valg hS18 (wanted_of (j := 17) (b := true) (d := 69) rfl rfl rfl rfl) rfl (r_move rfl (.t rfl rfl)) ?_
 obtain ⟨us2, hw1⟩ := hO2.sl R2.mono (by first | omega | (simp; done))
 refine s_valg hS18 (wanted_of (j := 17) (b := true) (d := 69) rfl rfl rfl rfl) rfl (r_ixv (j := 0) rfl Try.underlying30 ti56 (.t rfl rfl) .c hw1.sl (hw1.len) rfl (by decide)) ?_
 obtain ⟨ea1, ec1, us3, hv1, hx2⟩ := hw1.get2 0 (by decide)
 refine s_valg hS18 (wanted_of (j := 17) (b := true) (d := 69) rfl rfl rfl rfl) rfl (r_load rfl one56 (.t rfl rfl) (hw1.sl.cell_p (i := 6) rfl hv1)) ?_
 refine s_valg hS18 (wanted_of (j := 17) (b := true) (d := 69) rfl rfl rfl rfl) rfl (r_len rfl rfl Try.underlying56 (.t rfl rfl)) ?_
 refine s_valg hS18 (wanted_of (j := 17) (b := true) (d := 69) rfl rfl rfl rfl) rfl (r_cmp_t rfl rfl (.t rfl rfl) .c (show ((((((noR ++ [(([([97]), []] : List (List Nat)))]))).getD 0 []).length : Nat) : Int) = 2 from rfl)) ?_
 refine s_val hS18 rfl rfl (r_pick rfl (.t rfl rfl) (.t rfl rfl)) ?_
 refine s_val hS18 rfl rfl (r_move rfl (.t rfl rfl)) ?_
 refine s_valg hS18 (wanted_of (j := 24) (b := true) (d := 76) rfl rfl rfl rfl) rfl (r_move rfl (.t rfl rfl)) ?_
 refine s_valg hS18 (wanted_of (j := 24) (b := true) (d := 76) rfl rfl rfl rfl) rfl (r_ixv (j := 0) rfl Try.underlying30 ti56 (.t rfl rfl) .c hw1.sl (hw1.len) rfl (by decide)) ?_
 obtain ⟨ea2, ec2, us4, hv2, hx3⟩ := hw1.get2 0 (by decide)
 refine s_valg hS18 (wanted_of (j := 24) (b := true) (d := 76) rfl rfl rfl rfl) rfl (r_load rfl one56 (.t rfl rfl) (hw1.sl.cell_p (i := 6) rfl hv2)) ?_
 refine s_valg hS18 (wanted_of (j := 24) (b := true) (d := 76) rfl rfl rfl rfl) rfl (r_ixv (j := 0) rfl Try.underlying56 ti22 (.t rfl rfl) .c hx3.sl (hx3.len) rfl (by decide)) ?_
 obtain ⟨ea3, ec3, hv3, hx4⟩ := hx3.get 0 (by decide)
 refine s_valg hS18 (wanted_of (j := 24) (b := true) (d := 76) rfl rfl rfl rfl) rfl (r_load rfl one22 (.t rfl rfl) (hx3.sl.cell_p (i := 6) rfl hv3)) ?_
 refine s_valg hS18 (wanted_of (j := 24) (b := true) (d := 76) rfl rfl rfl rfl) rfl (r_strL rfl Try.underlying22 Try.underlying5 Try.underlying9 (.t rfl rfl) hx4 rfl (fun _ s_ => s_.has (i := 6) rfl) (fun _ => trivial)) ?_
 refine s_valg hS18 (wanted_of (j := 24) (b := true) (d := 76) rfl rfl rfl rfl) rfl (r_eqstr rfl (.t rfl rfl) .c (r := true) (by decide +kernel)) ?_
 refine s_val hS18 rfl rfl (r_pick rfl (.t rfl rfl) (.t rfl rfl)) ?_
 refine s_val hS18 rfl rfl (r_move rfl (.t rfl rfl)) ?_
 refine s_unguard (wanted_of (j := 33) (b := true) (d := 85) rfl rfl rfl rfl) ?_
 refine s_lit rfl rfl rfl Try.underlying22 ti5 (vs := [(0, .int .u8 49), (1, .int .u8 50), (2, .int .u8 51), (3, .int .u8 52), (4, .int .u8 53), (5, .int .u8 54), (6, .int .u8 55), (7, .int .u8 56), (8, .int .u8 57)]) ⟨rfl, .c, ⟨rfl, .c, ⟨rfl, .c, ⟨rfl, .c, ⟨rfl, .c, ⟨rfl, .c, ⟨rfl, .c, ⟨rfl, .c, ⟨rfl, .c, trivial⟩⟩⟩⟩⟩⟩⟩⟩⟩ (L := [49, 50, 51, 52, 53, 54, 55, 56, 57]) rfl (by omega) rfl hS18 fun blk3 w9 hb3 hB3 hS19 => ?_
 have hS20 : St w0 [] (fl [(pk d1 m1 D3), [(l1, .cells #[.pointer (some ⟨d1, 0, none⟩), .string (⟨#[106]⟩), .int .i64 ((((lg (noR ++ [(([([97]), []] : List (List Nat)))])).size : Nat) : Int)), .int .i64 ((((lg (noR ++ [(([([97]), []] : List (List Nat)))])).count : Nat) : Int)), .bool ((lg (noR ++ [(([([97]), []] : List (List Nat)))])).off)] 92 (0, 0))], [(l2, .cells #[.pointer (some ⟨d1, 0, none⟩), .string (⟨#[106]⟩), .int .i64 ((((lg ((noR ++ [(([([97]), []] : List (List Nat)))]))).size : Nat) : Int)), .int .i64 ((((lg ((noR ++ [(([([97]), []] : List (List Nat)))]))).count : Nat) : Int)), .bool ((lg ((noR ++ [(([([97]), []] : List (List Nat)))]))).off)] 92 (0, 0))], [(blk3, .cells (encN .u8 ([49, 50, 51, 52, 53, 54, 55, 56, 57])) 5 (0, 0))], sm4, sg1, sg3, sg4]) w9 := hS19.push 3 rfl
 refine s_unguard (wanted_of (j := 33) (b := true) (d := 85) rfl rfl rfl rfl) ?_
 refine s_convsame (m := 3) rfl rfl rfl Try.underlying22 Try.underlying5 (.t rfl rfl) hS20 rfl (h' := fl [(pk d1 m1 D3), [(l1, .cells #[.pointer (some ⟨d1, 0, none⟩), .string (⟨#[106]⟩), .int .i64 ((((lg (noR ++ [(([([97]), []] : List (List Nat)))])).size : Nat) : Int)), .int .i64 ((((lg (noR ++ [(([([97]), []] : List (List Nat)))])).count : Nat) : Int)), .bool ((lg (noR ++ [(([([97]), []] : List (List Nat)))])).off)] 92 (0, 0))], [(l2, .cells #[.pointer (some ⟨d1, 0, none⟩), .string (⟨#[106]⟩), .int .i64 ((((lg ((noR ++ [(([([97]), []] : List (List Nat)))]))).size : Nat) : Int)), .int .i64 ((((lg ((noR ++ [(([([97]), []] : List (List Nat)))]))).count : Nat) : Int)), .bool ((lg ((noR ++ [(([([97]), []] : List (List Nat)))]))).off)] 92 (0, 0))], [(blk3, .cells (encN .u8 ([49, 50, 51, 52, 53, 54, 55, 56, 57])) 5 ((encN .u8 ([49, 50, 51, 52, 53, 54, 55, 56, 57])).size, (encN .u8 ([49, 50, 51, 52, 53, 54, 55, 56, 57])).size + 1))], sm4, sg1, sg3, sg4]) rfl fun w10 hS22 => ?_
 obtain ⟨sg5, hx5, hS21⟩ : ∃ sg5 : Hp, Sl .u8 (some ⟨blk3, 0, none⟩) 9 ([49, 50, 51, 52, 53, 54, 55, 56, 57]) sg5 ∧ St w0 [] (fl [(pk d1 m1 D3), [(l1, .cells #[.pointer (some ⟨d1, 0, none⟩), .string (⟨#[106]⟩), .int .i64 ((((lg (noR ++ [(([([97]), []] : List (List Nat)))])).size : Nat) : Int)), .int .i64 ((((lg (noR ++ [(([([97]), []] : List (List Nat)))])).count : Nat) : Int)), .bool ((lg (noR ++ [(([([97]), []] : List (List Nat)))])).off)] 92 (0, 0))], [(l2, .cells #[.pointer (some ⟨d1, 0, none⟩), .string (⟨#[106]⟩), .int .i64 ((((lg ((noR ++ [(([([97]), []] : List (List Nat)))]))).size : Nat) : Int)), .int .i64 ((((lg ((noR ++ [(([([97]), []] : List (List Nat)))]))).count : Nat) : Int)), .bool ((lg ((noR ++ [(([([97]), []] : List (List Nat)))]))).off)] 92 (0, 0))], sm4, sg1, sg3, sg4, sg5]) w10 := ⟨_, Sl.of_enc (by decide) (by decide) (by decide), hS22.pick [0, 1, 2, 4, 5, 6, 7, 3] rfl (by decide)⟩
 refine s_callg (wanted_of (j := 33) (b := true) (d := 85) rfl rfl rfl rfl) rfl rfl (vs := [.slice (some ⟨blk3, 0, none⟩) 9 9]) ⟨(.t rfl rfl), trivial⟩ cb11 (Sum_ok w10 (some ⟨blk3, 0, none⟩) 9 ([49, 50, 51, 52, 53, 54, 55, 56, 57]) sg5 hx5 (Old.of_piece (i := 7) (xs := []) [] hS21 rfl rfl (by decide)) ) ?_
 rintro _ w11 ⟨rfl, ht6⟩
 have hS23 : St w0 [] (fl [(pk d1 m1 D3), [(l1, .cells #[.pointer (some ⟨d1, 0, none⟩), .string (⟨#[106]⟩), .int .i64 ((((lg (noR ++ [(([([97]), []] : List (List Nat)))])).size : Nat) : Int)), .int .i64 ((((lg (noR ++ [(([([97]), []] : List (List Nat)))])).count : Nat) : Int)), .bool ((lg (noR ++ [(([([97]), []] : List (List Nat)))])).off)] 92 (0, 0))], [(l2, .cells #[.pointer (some ⟨d1, 0, none⟩), .string (⟨#[106]⟩), .int .i64 ((((lg ((noR ++ [(([([97]), []] : List (List Nat)))]))).size : Nat) : Int)), .int .i64 ((((lg ((noR ++ [(([([97]), []] : List (List Nat)))]))).count : Nat) : Int)), .bool ((lg ((noR ++ [(([([97]), []] : List (List Nat)))]))).off)] 92 (0, 0))], sm4, sg1, sg3, sg4, sg5]) w11 := hS21.callL (xs := []) (xs' := []) (zs := []) [] rfl (by decide) ht6 rfl rfl
 refine s_valg hS23 (wanted_of (j := 33) (b := true) (d := 85) rfl rfl rfl rfl) rfl (r_cmp_t rfl rfl (.t rfl rfl) .c (show ((crcM 0 (([49, 50, 51, 52, 53, 54, 55, 56, 57])) : Nat) : Int) = 3421780262 from congrArg Int.ofNat (show crcM 0 [49, 50, 51, 52, 53, 54, 55, 56, 57] = 3421780262 from by decide +kernel))) ?_
 refine s_val hS23 rfl rfl (r_pick rfl (.t rfl rfl) (.t rfl rfl)) ?_
 refine s_val hS23 rfl rfl (r_assign rfl (.t rfl rfl)) ?_
 refine wpList_nil ?_
 refine x_tn ?_
 refine k_reb [(0, .bool true)] ⟨rfl, trivial⟩ fun G10 => ?_
 refine wp_ret ?_
 refine k_ret1 Try.results12 rfl rfl ?_
 refine ⟨_, rfl, ?_⟩
 have hS24 : St w0 [] (fl []) w11 := hS23.pick [] rfl (by decide)
 exact ⟨rfl, hS24⟩

end Go.Proofs.Ytdmiklegahdafaa
