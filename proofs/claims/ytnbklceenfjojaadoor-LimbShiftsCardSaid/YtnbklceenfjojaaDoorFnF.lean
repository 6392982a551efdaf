/- Contracts of functions of the program, each walked once. -/
import Derived.Test.YtnbklceenfjojaaDoorFnE
import Derived.Test.YtnbklceenfjojaaDoorKLaw
namespace Go.Proofs.YtnbklceenfjojaaDoor
open Go Go.RowKit K
namespace FF
theorem mixed : Tryd.prog.follows .mixedOrders = true := by kernel_rfl
theorem cb28 : callable Tryd.prog 28 = true := by kernel_rfl
theorem cb32 : callable Tryd.prog 32 = true := by kernel_rfl
theorem cb40 : callable Tryd.prog 40 = true := by kernel_rfl
theorem cb41 : callable Tryd.prog 41 = true := by kernel_rfl
theorem cb71 : callable Tryd.prog 71 = true := by kernel_rfl
theorem cb82 : callable Tryd.prog 82 = true := by kernel_rfl
theorem cb85 : callable Tryd.prog 85 = true := by kernel_rfl
theorem cb92 : callable Tryd.prog 92 = true := by kernel_rfl
theorem ti38 : (Tryd.prog.info? 38).map (fun i => (i.zero, i.size, i.bytes)) = some (some (.int .u32 0), 1, 4) := by kernel_rfl

end FF
open FF
attribute [local irreducible] Go.wpList Go.wpQuiet Go.wpStill Go.wpAny Go.Code.wp
set_option maxRecDepth 10000
set_option maxHeartbeats 8000000
set_option linter.unusedVariables false
set_option linter.unusedSimpArgs false
theorem check_nm (w0 : World) (aA : Option Addr) (cA : Nat) (A : List Nat) (hA : Rd w0 .u32 aA cA A) (nA : Nm A) :
    Calls Tryd.prog 27 #[.slice aA A.length cA] w0 (Ret fun v w' => v = .int .i64 0 ∧ St w0 [] [] w') := by
  refine (check_ok w0 aA cA A hA).mono ?_
  rintro e w' ⟨v, rfl, rfl, hS⟩
  exact ⟨_, rfl, by rw [chk_nm nA]; rfl, hS⟩
theorem both_nm (w0 : World) (aA : Option Addr) (cA : Nat) (A : List Nat) (hA : Rd w0 .u32 aA cA A) (aB : Option Addr) (cB : Nat) (B : List Nat) (hB : Rd w0 .u32 aB cB B) (nA : Nm A) (nB : Nm B) :
    Calls Tryd.prog 40 #[.slice aA A.length cA, .slice aB B.length cB] w0 (Ret fun v w' => v = .int .i64 0 ∧ St w0 [] [] w') := by
  refine (both_ok w0 aA cA A hA aB cB B hB).mono ?_
  rintro e w' ⟨v, rfl, rfl, hS⟩
  exact ⟨_, rfl, by rw [chk2_nm nA nB]; rfl, hS⟩
def NE (w0 w : World) (T : TypeId) (v : Value) (x : Nat) : Prop :=
  (x < Top ∧ ∃ L u, v = .tuple #[u, .int .i64 0] ∧ Ow w0 w .u32 T u L ∧ Nm L ∧ lv L = x) ∨ (Top ≤ x ∧ v = .tuple #[.slice none 0 0, .int .i64 21] ∧ St w0 [] [] w)
theorem NE.fits {w0 w : World} {T : TypeId} {v : Value} {x : Nat} (h : NE w0 w T v x) (hx : x < Top) : x < Top ∧ ∃ L u, v = .tuple #[u, .int .i64 0] ∧ Ow w0 w .u32 T u L ∧ Nm L ∧ lv L = x := by
  rcases h with h | ⟨h, _⟩
  · exact h
  · omega
theorem NE.overs {w0 w : World} {T : TypeId} {v : Value} {x : Nat} (h : NE w0 w T v x) (hx : Top ≤ x) : Top ≤ x ∧ v = .tuple #[.slice none 0 0, .int .i64 21] ∧ St w0 [] [] w := by
  rcases h with ⟨h, _⟩ | h
  · omega
  · exact h

theorem cloneN_A (w0 : World) (aA : Option Addr) (cA : Nat) (A : List Nat) (hA : Rd w0 .u32 aA cA A) (hlA : A.length ≤ 1000000) :
    Calls Tryd.prog 92 #[.slice aA A.length cA] w0 (Ret fun v w' => Ow w0 w' .u32 38 v A) := by
  refine (cloneN_ow w0 aA cA A hA hlA).mono ?_
  rintro e w' ⟨v, rfl, L, h, rfl⟩
  exact ⟨_, rfl, h⟩

theorem from_ok (w0 : World) (n : Nat) (hn : n ≤ 18446744073709551615) :
    Calls Tryd.prog 24 #[.int .u64 (((n : Nat) : Int))] w0 (Ret fun v w' => ∃ L, Ow w0 w' .u32 38 v L ∧ Nm L ∧ lv L = n) := by
  refine k_enter (vs := [.int .u64 (((n : Nat) : Int))]) Tryd.func24 rfl Tryd.ntmps24 rfl ?_
  have hS := St.init w0
  refine wp_seq ?_
  refine k_reg ?_
  refine s_val hS rfl rfl (r_assign rfl .c) ?_
  refine wpList_nil ?_
  refine x_tn ?_
  refine wp_seq ?_
  refine k_reg ?_
  refine s_val hS rfl rfl (r_move rfl (.t rfl rfl)) ?_
  refine s_val hS rfl rfl (r_conv rfl Tryd.underlying47 Tryd.underlying38 (.t rfl rfl) (wm_u32 rfl)) ?_
  refine s_val hS rfl rfl (r_move rfl (.t rfl rfl)) ?_
  refine s_val hS rfl rfl (r_shr rfl (.t rfl rfl) .c (by omega) (show (2 : Int) ^ _ = ((4294967296 : Nat) : Int) from rfl) fdiv_nat) ?_
  refine s_val hS rfl rfl (r_conv rfl Tryd.underlying47 Tryd.underlying38 (.t rfl rfl) (wm_u32 rfl)) ?_
  refine s_lit rfl rfl rfl Tryd.underlying26 ti38 (vs := [(0, .int .u32 (((n % 4294967296 : Nat) : Int))), (1, .int .u32 ((((n / 4294967296) % 4294967296 : Nat) : Int)))]) ⟨rfl, (.t rfl rfl), ⟨rfl, (.t rfl rfl), trivial⟩⟩ (L := [n % 4294967296, (n / 4294967296) % 4294967296]) rfl (by omega) rfl hS fun blk1 w1 hb1 hB1 hS1 => ?_
  refine s_call rfl rfl rfl (vs := [.slice (some ⟨blk1, 0, none⟩) 2 2]) ⟨(.t rfl rfl), trivial⟩ cb28 (normal_fit w1 (some ⟨blk1, 0, none⟩) 2 ([n % 4294967296, (n / 4294967296) % 4294967296]) (rd_own0 (m := 0) hS1 rfl (by simp) (by simp) (by intro x hx; simp only [List.mem_cons, List.not_mem_nil, or_false] at hx; first | (subst hx; first | omega | (simp only [maxK]; omega)) | (rcases hx with rfl | rfl <;> first | omega | (simp only [maxK]; omega)))) (by simp) (lt_top (by intro x hx; simp at hx; omega) (by simp))) ?_
  intro v1 w2 hp1
  obtain ⟨hp1, hB2⟩ := hp1
  have hS2 := hS1.keep hB2
  replace hB2 := hB2.toBelow
  obtain ⟨R1, X1, hE1, hNR1, hlR1, rfl⟩ := hp1
  have hnR1 := hNR1.len
  have hR1 : Rd w2 .u32 (some ⟨blk1, 0, none⟩) R1.length R1 := Rd.front_eq hE1 (rd_own0 (m := 0) (cap := 2) hS2 rfl (by simp) (by simp) (by intro x hx; simp only [List.mem_cons, List.not_mem_nil, or_false] at hx; first | (subst hx; first | omega | (simp only [maxK]; omega)) | (rcases hx with rfl | rfl <;> first | omega | (simp only [maxK]; omega))))
  have hW1 := Ow.of_front_eq hE1 hS2 (m := 0) rfl (by have := hNR1.len; omega) hNR1.lim
  refine s_val hS2 rfl rfl (r_move rfl (.t rfl rfl)) ?_
  refine s_val hS2 rfl rfl (r_extract rfl (.t rfl rfl) rfl) ?_
  refine s_val hS2 rfl rfl (r_extract rfl (.t rfl rfl) rfl) ?_
  refine s_val hS2 rfl rfl (r_assign rfl (.t rfl rfl)) ?_
  refine s_val hS2 rfl rfl (r_assign rfl (.t rfl rfl)) ?_
  refine wpList_nil ?_
  refine x_tn ?_
  refine k_reb [(2, .slice none 0 0), (3, .slice (some ⟨blk1, 0, none⟩) R1.length R1.length)] ⟨rfl, rfl, trivial⟩ fun G1 => ?_
  refine wp_seq ?_
  refine k_reg ?_
  refine s_val hS2 rfl rfl (r_move rfl (.t rfl rfl)) ?_
  refine s_val hS2 rfl rfl (r_assign rfl (.t rfl rfl)) ?_
  refine wpList_nil ?_
  refine x_tn ?_
  refine k_reb [(2, .slice (some ⟨blk1, 0, none⟩) R1.length R1.length)] ⟨rfl, trivial⟩ fun G2 => ?_
  refine wp_ret ?_
  refine k_ret1 Tryd.results24 rfl rfl ?_
  refine ⟨_, rfl, ?_⟩
  exact ⟨R1, hW1, hNR1, by rw [hlR1]; simp [lv]; omega⟩

theorem Cmp_ok (w0 : World) (aA : Option Addr) (cA : Nat) (A : List Nat) (hA : Rd w0 .u32 aA cA A) (aB : Option Addr) (cB : Nat) (B : List Nat) (hB : Rd w0 .u32 aB cB B) (nA : Nm A) (nB : Nm B) :
    Calls Tryd.prog 34 #[.slice aA A.length cA, .slice aB B.length cB] w0 (Ret fun v w' => ((lv A < lv B ∧ v = .int .i64 (-1)) ∨ (lv A = lv B ∧ v = .int .i64 0) ∨ (lv B < lv A ∧ v = .int .i64 1)) ∧ St w0 [] [] w') := by
  refine k_enter (vs := [.slice aA A.length cA, .slice aB B.length cB]) Tryd.func34 rfl Tryd.ntmps34 rfl ?_
  have hS := St.init w0
  have lA := hA.le
  have lB := hB.le
  have lA2 := nA.len
  have lB2 := nB.len
  refine wp_seq ?_
  refine k_reg ?_
  refine s_val hS rfl rfl (r_assign rfl .c) ?_
  refine wpList_nil ?_
  refine x_tn ?_
  refine wp_seq ?_
  refine wp_seq ?_
  refine k_reg ?_
  refine s_val hS rfl rfl (r_move rfl (.t rfl rfl)) ?_
  refine s_val hS rfl rfl (r_move rfl (.t rfl rfl)) ?_
  refine s_call rfl rfl rfl (vs := [.slice aA A.length cA, .slice aB B.length cB]) ⟨(.t rfl rfl), (.t rfl rfl), trivial⟩ cb40 (both_nm w0 aA cA A hA aB cB B hB nA nB) ?_
  intro v1 w1 hp1
  obtain ⟨hp1, hB1⟩ := hp1
  have hS1 := hS.keep hB1
  replace hB1 := hB1.toBelow
  obtain rfl := hp1
  refine s_val hS1 rfl rfl (r_cmp_f rfl rfl (.t rfl rfl) .c (show ¬ (¬ 0 = 0) from by omega)) ?_
  refine wpList_nil ?_
  refine x_tn ?_
  refine k_reb [(0, .slice aA A.length cA), (1, .slice aB B.length cB), (4, .int .i64 0), (8, .bool false)] ⟨rfl, rfl, rfl, rfl, trivial⟩ fun G1 => ?_
  refine k_f (.t rfl rfl) ?_
  refine wp_skip ?_
  refine x_tn ?_
  refine k_reb [(0, .slice aA A.length cA), (1, .slice aB B.length cB), (4, .int .i64 0)] ⟨rfl, rfl, rfl, trivial⟩ fun G2 => ?_
  refine wp_seq ?_
  refine k_reg ?_
  refine s_val hS1 rfl rfl (r_move rfl (.t rfl rfl)) ?_
  refine s_val hS1 rfl rfl (r_move rfl (.t rfl rfl)) ?_
  refine s_call rfl rfl rfl (vs := [.slice aA A.length cA, .slice aB B.length cB]) ⟨(.t rfl rfl), (.t rfl rfl), trivial⟩ cb71 (cmp_ok w1 aA cA A (rd_st hS1 hA (by simp)) aB cB B (rd_st hS1 hB (by simp)) nA.nz nB.nz) ?_
  intro v2 w2 hp2
  obtain ⟨hp2, hB2⟩ := hp2
  have hS2 := hS1.keep hB2
  replace hB2 := hB2.toBelow
  rcases hp2 with ⟨hc1, rfl⟩ | ⟨hc1, rfl⟩ | ⟨hc1, rfl⟩
  · refine s_val hS2 rfl rfl (r_assign rfl (.t rfl rfl)) ?_
    refine wpList_nil ?_
    refine x_tn ?_
    refine k_reb [(4, .int .i64 ((-1)))] ⟨rfl, trivial⟩ fun G3 => ?_
    refine wp_ret ?_
    refine k_ret1 Tryd.results34 rfl rfl ?_
    refine ⟨_, rfl, ?_⟩
    exact ⟨.inl ⟨hc1, rfl⟩, hS2⟩
  · refine s_val hS2 rfl rfl (r_assign rfl (.t rfl rfl)) ?_
    refine wpList_nil ?_
    refine x_tn ?_
    refine k_reb [(4, .int .i64 0)] ⟨rfl, trivial⟩ fun G4 => ?_
    refine wp_ret ?_
    refine k_ret1 Tryd.results34 rfl rfl ?_
    refine ⟨_, rfl, ?_⟩
    exact ⟨.inr (.inl ⟨hc1, rfl⟩), hS2⟩
  · refine s_val hS2 rfl rfl (r_assign rfl (.t rfl rfl)) ?_
    refine wpList_nil ?_
    refine x_tn ?_
    refine k_reb [(4, .int .i64 1)] ⟨rfl, trivial⟩ fun G5 => ?_
    refine wp_ret ?_
    refine k_ret1 Tryd.results34 rfl rfl ?_
    refine ⟨_, rfl, ?_⟩
    exact ⟨.inr (.inr ⟨hc1, rfl⟩), hS2⟩

theorem Add_ok (w0 : World) (aA : Option Addr) (cA : Nat) (A : List Nat) (hA : Rd w0 .u32 aA cA A) (aB : Option Addr) (cB : Nat) (B : List Nat) (hB : Rd w0 .u32 aB cB B) (nA : Nm A) (nB : Nm B) :
    Calls Tryd.prog 52 #[.slice aA A.length cA, .slice aB B.length cB] w0 (Ret fun v w' => NE w0 w' 38 v (lv A + lv B)) := by
  refine k_enter (vs := [.slice aA A.length cA, .slice aB B.length cB]) Tryd.func52 rfl Tryd.ntmps52 rfl ?_
  have hS := St.init w0
  have lA := hA.le
  have lB := hB.le
  have lA2 := nA.len
  have lB2 := nB.len
  refine wp_seq ?_
  refine k_reg ?_
  refine s_val hS rfl rfl (r_assign rfl .c) ?_
  refine s_val hS rfl rfl (r_assign rfl .c) ?_
  refine wpList_nil ?_
  refine x_tn ?_
  refine wp_seq ?_
  refine wp_seq ?_
  refine k_reg ?_
  refine s_val hS rfl rfl (r_move rfl (.t rfl rfl)) ?_
  refine s_val hS rfl rfl (r_move rfl (.t rfl rfl)) ?_
  refine s_call rfl rfl rfl (vs := [.slice aA A.length cA, .slice aB B.length cB]) ⟨(.t rfl rfl), (.t rfl rfl), trivial⟩ cb40 (both_nm w0 aA cA A hA aB cB B hB nA nB) ?_
  intro v1 w1 hp1
  obtain ⟨hp1, hB1⟩ := hp1
  have hS1 := hS.keep hB1
  replace hB1 := hB1.toBelow
  obtain rfl := hp1
  refine s_val hS1 rfl rfl (r_assign rfl (.t rfl rfl)) ?_
  refine wpList_nil ?_
  refine x_tn ?_
  refine k_reb [(0, .slice aA A.length cA), (1, .slice aB B.length cB), (4, .slice none 0 0), (5, .int .i64 0), (6, .int .i64 0)] ⟨rfl, rfl, rfl, rfl, rfl, trivial⟩ fun G1 => ?_
  refine wp_seq ?_
  refine k_reg ?_
  refine s_val hS1 rfl rfl (r_move rfl (.t rfl rfl)) ?_
  refine s_val hS1 rfl rfl (r_cmp_f rfl rfl (.t rfl rfl) .c (show ¬ (¬ 0 = 0) from by omega)) ?_
  refine wpList_nil ?_
  refine x_tn ?_
  refine k_reb [(0, .slice aA A.length cA), (1, .slice aB B.length cB), (4, .slice none 0 0), (5, .int .i64 0), (6, .int .i64 0), (11, .bool false)] ⟨rfl, rfl, rfl, rfl, rfl, rfl, trivial⟩ fun G2 => ?_
  refine k_f (.t rfl rfl) ?_
  refine wp_skip ?_
  refine x_tn ?_
  refine k_reb [(0, .slice aA A.length cA), (1, .slice aB B.length cB), (4, .slice none 0 0), (5, .int .i64 0)] ⟨rfl, rfl, rfl, rfl, trivial⟩ fun G3 => ?_
  refine wp_seq ?_
  refine k_reg ?_
  refine s_val hS1 rfl rfl (r_move rfl (.t rfl rfl)) ?_
  refine s_val hS1 rfl rfl (r_move rfl (.t rfl rfl)) ?_
  refine s_call rfl rfl rfl (vs := [.slice aA A.length cA, .slice aB B.length cB]) ⟨(.t rfl rfl), (.t rfl rfl), trivial⟩ cb82 (add_ow w1 aA cA A (rd_st hS1 hA (by simp)) aB cB B (rd_st hS1 hB (by simp)) (by first | omega | (simp only [List.length_cons, List.length_nil]; omega)) (by first | omega | (simp only [List.length_cons, List.length_nil]; omega))) ?_
  intro v2 w2 hp2
  obtain ⟨L1, hp2, ⟨hL1l, hL1lim, hL1v⟩⟩ := hp2
  obtain ⟨a1, c1, rfl, hR1, -, hT1⟩ := id hp2
  have hW1 := Ow.from_ hS1 hp2
  have hS2 := hS1.keep hT1
  refine s_call rfl rfl rfl (vs := [.slice a1 L1.length c1]) ⟨(.t rfl rfl), trivial⟩ cb28 (normal_any w2 a1 c1 L1 hR1 (by omega)) ?_
  intro v3 w3 hp3
  obtain ⟨hp3, hB2⟩ := hp3
  have hS3 := hS2.keep hB2
  replace hB2 := hB2.toBelow
  have hR2 := hR1.below hB2 (Nat.le_refl _)
  have hW2 := hW1.later hB2
  rcases hp3 with ⟨R1, X1, hE1, hNR1, hlR1, ht1, rfl⟩ | ⟨ht1, rfl⟩
  · have hnR1 := hNR1.len
    have hR3 := Rd.front_eq hE1 hR2
    have hW3 := Ow.front_eq hE1 hW2
    refine s_val hS3 rfl rfl (r_extract rfl (.t rfl rfl) rfl) ?_
    refine s_val hS3 rfl rfl (r_extract rfl (.t rfl rfl) rfl) ?_
    refine s_val hS3 rfl rfl (r_assign rfl (.t rfl rfl)) ?_
    refine s_val hS3 rfl rfl (r_assign rfl (.t rfl rfl)) ?_
    refine wpList_nil ?_
    refine x_tn ?_
    refine k_reb [(4, .slice a1 R1.length R1.length), (5, .int .i64 0)] ⟨rfl, rfl, trivial⟩ fun G4 => ?_
    refine wp_ret ?_
    refine k_ret2 Tryd.results52 rfl rfl rfl rfl ?_
    refine ⟨_, rfl, ?_⟩
    exact .inl ⟨by omega, R1, _, rfl, hW3, hNR1, by omega⟩
  · refine s_val hS3 rfl rfl (r_extract rfl (.t rfl rfl) rfl) ?_
    refine s_val hS3 rfl rfl (r_extract rfl (.t rfl rfl) rfl) ?_
    refine s_val hS3 rfl rfl (r_assign rfl (.t rfl rfl)) ?_
    refine s_val hS3 rfl rfl (r_assign rfl (.t rfl rfl)) ?_
    refine wpList_nil ?_
    refine x_tn ?_
    refine k_reb [(4, .slice none 0 0), (5, .int .i64 21)] ⟨rfl, rfl, trivial⟩ fun G5 => ?_
    refine wp_ret ?_
    refine k_ret2 Tryd.results52 rfl rfl rfl rfl ?_
    refine ⟨_, rfl, ?_⟩
    exact .inr ⟨by omega, rfl, hS3⟩

theorem Mul_ok (w0 : World) (aA : Option Addr) (cA : Nat) (A : List Nat) (hA : Rd w0 .u32 aA cA A) (aB : Option Addr) (cB : Nat) (B : List Nat) (hB : Rd w0 .u32 aB cB B) (nA : Nm A) (nB : Nm B) :
    Calls Tryd.prog 36 #[.slice aA A.length cA, .slice aB B.length cB] w0 (Ret fun v w' => NE w0 w' 38 v (lv A * lv B)) := by
  refine k_enter (vs := [.slice aA A.length cA, .slice aB B.length cB]) Tryd.func36 rfl Tryd.ntmps36 rfl ?_
  have hS := St.init w0
  have lA := hA.le
  have lB := hB.le
  have lA2 := nA.len
  have lB2 := nB.len
  refine wp_seq ?_
  refine k_reg ?_
  refine s_val hS rfl rfl (r_assign rfl .c) ?_
  refine s_val hS rfl rfl (r_assign rfl .c) ?_
  refine wpList_nil ?_
  refine x_tn ?_
  refine wp_seq ?_
  refine wp_seq ?_
  refine k_reg ?_
  refine s_val hS rfl rfl (r_move rfl (.t rfl rfl)) ?_
  refine s_val hS rfl rfl (r_move rfl (.t rfl rfl)) ?_
  refine s_call rfl rfl rfl (vs := [.slice aA A.length cA, .slice aB B.length cB]) ⟨(.t rfl rfl), (.t rfl rfl), trivial⟩ cb40 (both_nm w0 aA cA A hA aB cB B hB nA nB) ?_
  intro v1 w1 hp1
  obtain ⟨hp1, hB1⟩ := hp1
  have hS1 := hS.keep hB1
  replace hB1 := hB1.toBelow
  obtain rfl := hp1
  refine s_val hS1 rfl rfl (r_assign rfl (.t rfl rfl)) ?_
  refine wpList_nil ?_
  refine x_tn ?_
  refine k_reb [(0, .slice aA A.length cA), (1, .slice aB B.length cB), (4, .slice none 0 0), (5, .int .i64 0), (6, .int .i64 0)] ⟨rfl, rfl, rfl, rfl, rfl, trivial⟩ fun G1 => ?_
  refine wp_seq ?_
  refine k_reg ?_
  refine s_val hS1 rfl rfl (r_move rfl (.t rfl rfl)) ?_
  refine s_val hS1 rfl rfl (r_cmp_f rfl rfl (.t rfl rfl) .c (show ¬ (¬ 0 = 0) from by omega)) ?_
  refine wpList_nil ?_
  refine x_tn ?_
  refine k_reb [(0, .slice aA A.length cA), (1, .slice aB B.length cB), (4, .slice none 0 0), (5, .int .i64 0), (6, .int .i64 0), (11, .bool false)] ⟨rfl, rfl, rfl, rfl, rfl, rfl, trivial⟩ fun G2 => ?_
  refine k_f (.t rfl rfl) ?_
  refine wp_skip ?_
  refine x_tn ?_
  refine k_reb [(0, .slice aA A.length cA), (1, .slice aB B.length cB), (4, .slice none 0 0), (5, .int .i64 0)] ⟨rfl, rfl, rfl, rfl, trivial⟩ fun G3 => ?_
  refine wp_seq ?_
  refine k_reg ?_
  refine s_val hS1 rfl rfl (r_move rfl (.t rfl rfl)) ?_
  refine s_val hS1 rfl rfl (r_move rfl (.t rfl rfl)) ?_
  refine s_call rfl rfl rfl (vs := [.slice aA A.length cA, .slice aB B.length cB]) ⟨(.t rfl rfl), (.t rfl rfl), trivial⟩ cb32 (mul_ow w1 aA cA A (rd_st hS1 hA (by simp)) aB cB B (rd_st hS1 hB (by simp)) (by first | omega | (simp only [List.length_cons, List.length_nil]; omega)) (by first | omega | (simp only [List.length_cons, List.length_nil]; omega))) ?_
  intro v2 w2 hp2
  obtain ⟨L1, hp2, ⟨hL1l, hL1lim, hL1v⟩⟩ := hp2
  obtain ⟨a1, c1, rfl, hR1, -, hT1⟩ := id hp2
  have hW1 := Ow.from_ hS1 hp2
  have hS2 := hS1.keep hT1
  refine s_call rfl rfl rfl (vs := [.slice a1 L1.length c1]) ⟨(.t rfl rfl), trivial⟩ cb28 (normal_any w2 a1 c1 L1 hR1 (by omega)) ?_
  intro v3 w3 hp3
  obtain ⟨hp3, hB2⟩ := hp3
  have hS3 := hS2.keep hB2
  replace hB2 := hB2.toBelow
  have hR2 := hR1.below hB2 (Nat.le_refl _)
  have hW2 := hW1.later hB2
  rcases hp3 with ⟨R1, X1, hE1, hNR1, hlR1, ht1, rfl⟩ | ⟨ht1, rfl⟩
  · have hnR1 := hNR1.len
    have hR3 := Rd.front_eq hE1 hR2
    have hW3 := Ow.front_eq hE1 hW2
    refine s_val hS3 rfl rfl (r_extract rfl (.t rfl rfl) rfl) ?_
    refine s_val hS3 rfl rfl (r_extract rfl (.t rfl rfl) rfl) ?_
    refine s_val hS3 rfl rfl (r_assign rfl (.t rfl rfl)) ?_
    refine s_val hS3 rfl rfl (r_assign rfl (.t rfl rfl)) ?_
    refine wpList_nil ?_
    refine x_tn ?_
    refine k_reb [(4, .slice a1 R1.length R1.length), (5, .int .i64 0)] ⟨rfl, rfl, trivial⟩ fun G4 => ?_
    refine wp_ret ?_
    refine k_ret2 Tryd.results36 rfl rfl rfl rfl ?_
    refine ⟨_, rfl, ?_⟩
    exact .inl ⟨by omega, R1, _, rfl, hW3, hNR1, by omega⟩
  · refine s_val hS3 rfl rfl (r_extract rfl (.t rfl rfl) rfl) ?_
    refine s_val hS3 rfl rfl (r_extract rfl (.t rfl rfl) rfl) ?_
    refine s_val hS3 rfl rfl (r_assign rfl (.t rfl rfl)) ?_
    refine s_val hS3 rfl rfl (r_assign rfl (.t rfl rfl)) ?_
    refine wpList_nil ?_
    refine x_tn ?_
    refine k_reb [(4, .slice none 0 0), (5, .int .i64 21)] ⟨rfl, rfl, trivial⟩ fun G5 => ?_
    refine wp_ret ?_
    refine k_ret2 Tryd.results36 rfl rfl rfl rfl ?_
    refine ⟨_, rfl, ?_⟩
    exact .inr ⟨by omega, rfl, hS3⟩

theorem Sub_ok (w0 : World) (aA : Option Addr) (cA : Nat) (A : List Nat) (hA : Rd w0 .u32 aA cA A) (aB : Option Addr) (cB : Nat) (B : List Nat) (hB : Rd w0 .u32 aB cB B) (nA : Nm A) (nB : Nm B) (hle : lv B ≤ lv A) :
    Calls Tryd.prog 54 #[.slice aA A.length cA, .slice aB B.length cB] w0 (Ret fun v w' => ∃ L u, v = .tuple #[u, .int .i64 0] ∧ Ow w0 w' .u32 38 u L ∧ Nm L ∧ lv L = lv A - lv B) := by
  refine k_enter (vs := [.slice aA A.length cA, .slice aB B.length cB]) Tryd.func54 rfl Tryd.ntmps54 rfl ?_
  have hS := St.init w0
  have lA := hA.le
  have lB := hB.le
  have lA2 := nA.len
  have lB2 := nB.len
  have hBA := len_of_le_lv nA.lim nB.nz hle
  have hTA := nm_lt nA
  refine wp_seq ?_
  refine k_reg ?_
  refine s_val hS rfl rfl (r_assign rfl .c) ?_
  refine s_val hS rfl rfl (r_assign rfl .c) ?_
  refine wpList_nil ?_
  refine x_tn ?_
  refine wp_seq ?_
  refine wp_seq ?_
  refine k_reg ?_
  refine s_val hS rfl rfl (r_move rfl (.t rfl rfl)) ?_
  refine s_val hS rfl rfl (r_move rfl (.t rfl rfl)) ?_
  refine s_call rfl rfl rfl (vs := [.slice aA A.length cA, .slice aB B.length cB]) ⟨(.t rfl rfl), (.t rfl rfl), trivial⟩ cb40 (both_nm w0 aA cA A hA aB cB B hB nA nB) ?_
  intro v1 w1 hp1
  obtain ⟨hp1, hB1⟩ := hp1
  have hS1 := hS.keep hB1
  replace hB1 := hB1.toBelow
  obtain rfl := hp1
  refine s_val hS1 rfl rfl (r_assign rfl (.t rfl rfl)) ?_
  refine wpList_nil ?_
  refine x_tn ?_
  refine k_reb [(0, .slice aA A.length cA), (1, .slice aB B.length cB), (4, .slice none 0 0), (5, .int .i64 0), (6, .int .i64 0)] ⟨rfl, rfl, rfl, rfl, rfl, trivial⟩ fun G1 => ?_
  refine wp_seq ?_
  refine k_reg ?_
  refine s_val hS1 rfl rfl (r_move rfl (.t rfl rfl)) ?_
  refine s_val hS1 rfl rfl (r_cmp_f rfl rfl (.t rfl rfl) .c (show ¬ (¬ 0 = 0) from by omega)) ?_
  refine wpList_nil ?_
  refine x_tn ?_
  refine k_reb [(0, .slice aA A.length cA), (1, .slice aB B.length cB), (4, .slice none 0 0), (5, .int .i64 0), (6, .int .i64 0), (11, .bool false)] ⟨rfl, rfl, rfl, rfl, rfl, rfl, trivial⟩ fun G2 => ?_
  refine k_f (.t rfl rfl) ?_
  refine wp_skip ?_
  refine x_tn ?_
  refine k_reb [(0, .slice aA A.length cA), (1, .slice aB B.length cB), (4, .slice none 0 0), (5, .int .i64 0)] ⟨rfl, rfl, rfl, rfl, trivial⟩ fun G3 => ?_
  refine wp_seq ?_
  refine wp_seq ?_
  refine k_reg ?_
  refine s_val hS1 rfl rfl (r_move rfl (.t rfl rfl)) ?_
  refine s_val hS1 rfl rfl (r_move rfl (.t rfl rfl)) ?_
  refine s_call rfl rfl rfl (vs := [.slice aA A.length cA, .slice aB B.length cB]) ⟨(.t rfl rfl), (.t rfl rfl), trivial⟩ cb71 (cmp_ok w1 aA cA A (rd_st hS1 hA (by simp)) aB cB B (rd_st hS1 hB (by simp)) nA.nz nB.nz) ?_
  intro v2 w2 hp2
  obtain ⟨hp2, hB2⟩ := hp2
  have hS2 := hS1.keep hB2
  replace hB2 := hB2.toBelow
  rcases hp2 with ⟨hc1, rfl⟩ | ⟨hc1, rfl⟩ | ⟨hc1, rfl⟩
  · refine s_val hS2 rfl rfl (r_cmp_t rfl rfl (.t rfl rfl) .c (show (-1) < 0 from by omega)) ?_
    refine wpList_nil ?_
    refine x_tn ?_
    refine k_reb [(0, .slice aA A.length cA), (1, .slice aB B.length cB), (4, .slice none 0 0), (5, .int .i64 0), (16, .bool true)] ⟨rfl, rfl, rfl, rfl, rfl, trivial⟩ fun G4 => ?_
    refine k_t (.t rfl rfl) ?_
    refine wp_seq ?_
    refine k_reg ?_
    refine s_val hS2 rfl rfl (r_assign rfl .c) ?_
    refine s_val hS2 rfl rfl (r_assign rfl .c) ?_
    refine wpList_nil ?_
    refine x_tn ?_
    refine k_reb [(0, .slice aA A.length cA), (1, .slice aB B.length cB), (4, .slice none 0 0), (5, .int .i64 22)] ⟨rfl, rfl, rfl, rfl, trivial⟩ fun G5 => ?_
    refine wp_ret ?_
    refine x_tr ?_
    refine k_ret2 Tryd.results54 rfl rfl rfl rfl ?_
    refine ⟨_, rfl, ?_⟩
    omega
  · refine s_val hS2 rfl rfl (r_cmp_f rfl rfl (.t rfl rfl) .c (show ¬ (0 < 0) from by omega)) ?_
    refine wpList_nil ?_
    refine x_tn ?_
    refine k_reb [(0, .slice aA A.length cA), (1, .slice aB B.length cB), (4, .slice none 0 0), (5, .int .i64 0), (16, .bool false)] ⟨rfl, rfl, rfl, rfl, rfl, trivial⟩ fun G6 => ?_
    refine k_f (.t rfl rfl) ?_
    refine wp_skip ?_
    refine x_tn ?_
    refine k_reb [(0, .slice aA A.length cA), (1, .slice aB B.length cB), (4, .slice none 0 0), (5, .int .i64 0)] ⟨rfl, rfl, rfl, rfl, trivial⟩ fun G7 => ?_
    refine wp_seq ?_
    refine k_reg ?_
    refine s_val hS2 rfl rfl (r_move rfl (.t rfl rfl)) ?_
    refine s_val hS2 rfl rfl (r_move rfl (.t rfl rfl)) ?_
    refine s_call rfl rfl rfl (vs := [.slice aA A.length cA, .slice aB B.length cB]) ⟨(.t rfl rfl), (.t rfl rfl), trivial⟩ cb85 (sub_ok w2 aA cA A (rd_st hS2 hA (by simp)) aB cB B (rd_st hS2 hB (by simp)) (by omega) hBA hle) ?_
    intro v3 w3 hp3
    obtain ⟨L1, hp3, ⟨hL1lim, hL1l, hL1v⟩⟩ := hp3
    obtain ⟨a1, c1, rfl, hR1, -, hT1⟩ := id hp3
    have hW1 := Ow.from_ hS2 hp3
    have hS3 := hS2.keep hT1
    refine s_call rfl rfl rfl (vs := [.slice a1 L1.length c1]) ⟨(.t rfl rfl), trivial⟩ cb28 (normal_fit w3 a1 c1 L1 hR1 (by omega) (by omega)) ?_
    intro v4 w4 hp4
    obtain ⟨hp4, hB3⟩ := hp4
    have hS4 := hS3.keep hB3
    replace hB3 := hB3.toBelow
    have hR2 := hR1.below hB3 (Nat.le_refl _)
    have hW2 := hW1.later hB3
    obtain ⟨R1, X1, hE1, hNR1, hlR1, rfl⟩ := hp4
    have hnR1 := hNR1.len
    have hR3 := Rd.front_eq hE1 hR2
    have hW3 := Ow.front_eq hE1 hW2
    refine s_val hS4 rfl rfl (r_extract rfl (.t rfl rfl) rfl) ?_
    refine s_val hS4 rfl rfl (r_extract rfl (.t rfl rfl) rfl) ?_
    refine s_val hS4 rfl rfl (r_assign rfl (.t rfl rfl)) ?_
    refine s_val hS4 rfl rfl (r_assign rfl (.t rfl rfl)) ?_
    refine wpList_nil ?_
    refine x_tn ?_
    refine k_reb [(4, .slice a1 R1.length R1.length), (5, .int .i64 0)] ⟨rfl, rfl, trivial⟩ fun G8 => ?_
    refine wp_ret ?_
    refine k_ret2 Tryd.results54 rfl rfl rfl rfl ?_
    refine ⟨_, rfl, ?_⟩
    exact ⟨R1, _, rfl, hW3, hNR1, by omega⟩
  · refine s_val hS2 rfl rfl (r_cmp_f rfl rfl (.t rfl rfl) .c (show ¬ (1 < 0) from by omega)) ?_
    refine wpList_nil ?_
    refine x_tn ?_
    refine k_reb [(0, .slice aA A.length cA), (1, .slice aB B.length cB), (4, .slice none 0 0), (5, .int .i64 0), (16, .bool false)] ⟨rfl, rfl, rfl, rfl, rfl, trivial⟩ fun G9 => ?_
    refine k_f (.t rfl rfl) ?_
    refine wp_skip ?_
    refine x_tn ?_
    refine k_reb [(0, .slice aA A.length cA), (1, .slice aB B.length cB), (4, .slice none 0 0), (5, .int .i64 0)] ⟨rfl, rfl, rfl, rfl, trivial⟩ fun G10 => ?_
    refine wp_seq ?_
    refine k_reg ?_
    refine s_val hS2 rfl rfl (r_move rfl (.t rfl rfl)) ?_
    refine s_val hS2 rfl rfl (r_move rfl (.t rfl rfl)) ?_
    refine s_call rfl rfl rfl (vs := [.slice aA A.length cA, .slice aB B.length cB]) ⟨(.t rfl rfl), (.t rfl rfl), trivial⟩ cb85 (sub_ok w2 aA cA A (rd_st hS2 hA (by simp)) aB cB B (rd_st hS2 hB (by simp)) (by omega) hBA hle) ?_
    intro v5 w5 hp5
    obtain ⟨L2, hp5, ⟨hL2lim, hL2l, hL2v⟩⟩ := hp5
    obtain ⟨a2, c2, rfl, hR4, -, hT2⟩ := id hp5
    have hW4 := Ow.from_ hS2 hp5
    have hS5 := hS2.keep hT2
    refine s_call rfl rfl rfl (vs := [.slice a2 L2.length c2]) ⟨(.t rfl rfl), trivial⟩ cb28 (normal_fit w5 a2 c2 L2 hR4 (by omega) (by omega)) ?_
    intro v6 w6 hp6
    obtain ⟨hp6, hB4⟩ := hp6
    have hS6 := hS5.keep hB4
    replace hB4 := hB4.toBelow
    have hR5 := hR4.below hB4 (Nat.le_refl _)
    have hW5 := hW4.later hB4
    obtain ⟨R2, X2, hE2, hNR2, hlR2, rfl⟩ := hp6
    have hnR2 := hNR2.len
    have hR6 := Rd.front_eq hE2 hR5
    have hW6 := Ow.front_eq hE2 hW5
    refine s_val hS6 rfl rfl (r_extract rfl (.t rfl rfl) rfl) ?_
    refine s_val hS6 rfl rfl (r_extract rfl (.t rfl rfl) rfl) ?_
    refine s_val hS6 rfl rfl (r_assign rfl (.t rfl rfl)) ?_
    refine s_val hS6 rfl rfl (r_assign rfl (.t rfl rfl)) ?_
    refine wpList_nil ?_
    refine x_tn ?_
    refine k_reb [(4, .slice a2 R2.length R2.length), (5, .int .i64 0)] ⟨rfl, rfl, trivial⟩ fun G11 => ?_
    refine wp_ret ?_
    refine k_ret2 Tryd.results54 rfl rfl rfl rfl ?_
    refine ⟨_, rfl, ?_⟩
    exact ⟨R2, _, rfl, hW6, hNR2, by omega⟩

theorem DivMod_ok (w0 : World) (aA : Option Addr) (cA : Nat) (A : List Nat) (hA : Rd w0 .u32 aA cA A) (aB : Option Addr) (cB : Nat) (B : List Nat) (hB : Rd w0 .u32 aB cB B) (nA : Nm A) (nB : Nm B) (hB0 : 0 < lv B) :
    Calls Tryd.prog 15 #[.slice aA A.length cA, .slice aB B.length cB] w0 (Ret fun v w' => ∃ Q R u v0, v = .tuple #[u, v0, .int .i64 0] ∧ Ow w0 w' .u32 38 u Q ∧ Ow w0 w' .u32 38 v0 R ∧ Nm Q ∧ Nm R ∧ lv Q = lv A / lv B ∧ lv R = lv A % lv B) := by
  refine k_enter (vs := [.slice aA A.length cA, .slice aB B.length cB]) Tryd.func15 rfl Tryd.ntmps15 rfl ?_
  have hS := St.init w0
  have lA := hA.le
  have lB := hB.le
  have lA2 := nA.len
  have lB2 := nB.len
  have hBl : 0 < B.length := Nat.pos_of_ne_zero fun h => by rw [List.eq_nil_of_length_eq_zero h] at hB0; simp [lv] at hB0
  have hTA := nm_lt nA
  have hd1 := Nat.div_le_self (lv A) (lv B)
  have hd2 := Nat.mod_le (lv A) (lv B)
  refine wp_seq ?_
  refine k_reg ?_
  refine s_val hS rfl rfl (r_assign rfl .c) ?_
  refine s_val hS rfl rfl (r_assign rfl .c) ?_
  refine s_val hS rfl rfl (r_assign rfl .c) ?_
  refine wpList_nil ?_
  refine x_tn ?_
  refine wp_seq ?_
  refine wp_seq ?_
  refine k_reg ?_
  refine s_val hS rfl rfl (r_move rfl (.t rfl rfl)) ?_
  refine s_val hS rfl rfl (r_move rfl (.t rfl rfl)) ?_
  refine s_call rfl rfl rfl (vs := [.slice aA A.length cA, .slice aB B.length cB]) ⟨(.t rfl rfl), (.t rfl rfl), trivial⟩ cb40 (both_nm w0 aA cA A hA aB cB B hB nA nB) ?_
  intro v1 w1 hp1
  obtain ⟨hp1, hB1⟩ := hp1
  have hS1 := hS.keep hB1
  replace hB1 := hB1.toBelow
  obtain rfl := hp1
  refine s_val hS1 rfl rfl (r_assign rfl (.t rfl rfl)) ?_
  refine wpList_nil ?_
  refine x_tn ?_
  refine k_reb [(0, .slice aA A.length cA), (1, .slice aB B.length cB), (4, .slice none 0 0), (5, .slice none 0 0), (6, .int .i64 0), (7, .int .i64 0)] ⟨rfl, rfl, rfl, rfl, rfl, rfl, trivial⟩ fun G1 => ?_
  refine wp_seq ?_
  refine k_reg ?_
  refine s_val hS1 rfl rfl (r_move rfl (.t rfl rfl)) ?_
  refine s_val hS1 rfl rfl (r_cmp_f rfl rfl (.t rfl rfl) .c (show ¬ (¬ 0 = 0) from by omega)) ?_
  refine wpList_nil ?_
  refine x_tn ?_
  refine k_reb [(0, .slice aA A.length cA), (1, .slice aB B.length cB), (4, .slice none 0 0), (5, .slice none 0 0), (6, .int .i64 0), (7, .int .i64 0), (14, .bool false)] ⟨rfl, rfl, rfl, rfl, rfl, rfl, rfl, trivial⟩ fun G2 => ?_
  refine k_f (.t rfl rfl) ?_
  refine wp_skip ?_
  refine x_tn ?_
  refine k_reb [(0, .slice aA A.length cA), (1, .slice aB B.length cB), (4, .slice none 0 0), (5, .slice none 0 0), (6, .int .i64 0)] ⟨rfl, rfl, rfl, rfl, rfl, trivial⟩ fun G3 => ?_
  refine wp_seq ?_
  refine wp_seq ?_
  refine k_reg ?_
  refine s_val hS1 rfl rfl (r_move rfl (.t rfl rfl)) ?_
  refine s_val hS1 rfl rfl (r_len rfl rfl Tryd.underlying27 (.t rfl rfl)) ?_
  refine s_val hS1 rfl rfl (r_cmp_f rfl rfl (.t rfl rfl) .c (show ¬ (((B.length : Nat) : Int) = 0) from (by omega))) ?_
  refine wpList_nil ?_
  refine x_tn ?_
  refine k_reb [(0, .slice aA A.length cA), (1, .slice aB B.length cB), (4, .slice none 0 0), (5, .slice none 0 0), (6, .int .i64 0), (18, .bool false)] ⟨rfl, rfl, rfl, rfl, rfl, rfl, trivial⟩ fun G4 => ?_
  refine k_f (.t rfl rfl) ?_
  refine wp_skip ?_
  refine x_tn ?_
  refine k_reb [(0, .slice aA A.length cA), (1, .slice aB B.length cB), (4, .slice none 0 0), (5, .slice none 0 0), (6, .int .i64 0)] ⟨rfl, rfl, rfl, rfl, rfl, trivial⟩ fun G5 => ?_
  refine wp_seq ?_
  refine k_reg ?_
  refine s_val hS1 rfl rfl (r_move rfl (.t rfl rfl)) ?_
  refine s_val hS1 rfl rfl (r_move rfl (.t rfl rfl)) ?_
  refine s_call rfl rfl rfl (vs := [.slice aA A.length cA, .slice aB B.length cB]) ⟨(.t rfl rfl), (.t rfl rfl), trivial⟩ cb41 (divide_ok w1 aA cA A (rd_st hS1 hA (by simp)) aB cB B (rd_st hS1 hB (by simp)) nA nB (by omega)) ?_
  intro v2 w2 hp2
  obtain ⟨Q, R, _, _, rfl, hp2, hq1, ⟨hQlim, hRlim, hQv, hRv, hQl, hRl⟩⟩ := hp2
  obtain ⟨a1, c1, rfl, hR1, -, hT1⟩ := id hp2
  have hW1 := Ow.from_ hS1 hp2
  have hS2 := hS1.keep hT1
  obtain ⟨a2, c2, rfl, hR2, -, hT2⟩ := id hq1
  have hW2 := Ow.from_ hS1 hq1
  refine s_val hS2 rfl rfl (r_move rfl (.t rfl rfl)) ?_
  refine s_val hS2 rfl rfl (r_extract rfl (.t rfl rfl) rfl) ?_
  refine s_val hS2 rfl rfl (r_extract rfl (.t rfl rfl) rfl) ?_
  refine s_val hS2 rfl rfl (r_assign rfl (.t rfl rfl)) ?_
  refine s_val hS2 rfl rfl (r_assign rfl (.t rfl rfl)) ?_
  refine wpList_nil ?_
  refine x_tn ?_
  refine k_reb [(4, .slice none 0 0), (5, .slice none 0 0), (6, .int .i64 0), (8, .slice a1 Q.length c1), (9, .slice a2 R.length c2)] ⟨rfl, rfl, rfl, rfl, rfl, trivial⟩ fun G6 => ?_
  refine wp_seq ?_
  refine k_reg ?_
  refine s_val hS2 rfl rfl (r_move rfl (.t rfl rfl)) ?_
  refine s_call rfl rfl rfl (vs := [.slice a1 Q.length c1]) ⟨(.t rfl rfl), trivial⟩ cb28 (normal_fit w2 a1 c1 Q hR1 (by omega) (by omega)) ?_
  intro v3 w3 hp3
  obtain ⟨hp3, hB2⟩ := hp3
  have hS4 := hS2.keep hB2
  replace hB2 := hB2.toBelow
  have hR3 := hR1.below hB2 (Nat.le_refl _)
  have hR4 := hR2.below hB2 (Nat.le_refl _)
  have hW3 := hW1.later hB2
  have hW4 := hW2.later hB2
  obtain ⟨R1, X1, hE1, hNR1, hlR1, rfl⟩ := hp3
  have hnR1 := hNR1.len
  have hR5 := Rd.front_eq hE1 hR3
  have hW5 := Ow.front_eq hE1 hW3
  refine s_val hS4 rfl rfl (r_move rfl (.t rfl rfl)) ?_
  refine s_val hS4 rfl rfl (r_extract rfl (.t rfl rfl) rfl) ?_
  refine s_val hS4 rfl rfl (r_extract rfl (.t rfl rfl) rfl) ?_
  refine s_val hS4 rfl rfl (r_assign rfl (.t rfl rfl)) ?_
  refine wpList_nil ?_
  refine x_tn ?_
  refine k_reb [(4, .slice a1 R1.length R1.length), (5, .slice none 0 0), (6, .int .i64 0), (9, .slice a2 R.length c2)] ⟨rfl, rfl, rfl, rfl, trivial⟩ fun G7 => ?_
  refine wp_seq ?_
  refine k_reg ?_
  refine s_val hS4 rfl rfl (r_move rfl (.t rfl rfl)) ?_
  refine s_call rfl rfl rfl (vs := [.slice a2 R.length c2]) ⟨(.t rfl rfl), trivial⟩ cb28 (normal_fit w3 a2 c2 R hR4 (by omega) (by omega)) ?_
  intro v4 w4 hp4
  obtain ⟨hp4, hB3⟩ := hp4
  have hS5 := hS4.keep hB3
  replace hB3 := hB3.toBelow
  have hR6 := hR5.below hB3 (Nat.le_refl _)
  have hR7 := hR4.below hB3 (Nat.le_refl _)
  have hW6 := hW3.later hB3
  have hW7 := hW4.later hB3
  have hW8 := hW5.later hB3
  obtain ⟨R2, X2, hE2, hNR2, hlR2, rfl⟩ := hp4
  have hnR2 := hNR2.len
  have hR8 := Rd.front_eq hE2 hR7
  have hW9 := Ow.front_eq hE2 hW7
  refine s_val hS5 rfl rfl (r_move rfl (.t rfl rfl)) ?_
  refine s_val hS5 rfl rfl (r_extract rfl (.t rfl rfl) rfl) ?_
  refine s_val hS5 rfl rfl (r_extract rfl (.t rfl rfl) rfl) ?_
  refine s_val hS5 rfl rfl (r_assign rfl (.t rfl rfl)) ?_
  refine wpList_nil ?_
  refine x_tn ?_
  refine k_reb [(4, .slice a1 R1.length R1.length), (5, .slice a2 R2.length R2.length), (6, .int .i64 0)] ⟨rfl, rfl, rfl, trivial⟩ fun G8 => ?_
  refine wp_seq ?_
  refine k_reg ?_
  refine s_val hS5 rfl rfl (r_move rfl (.t rfl rfl)) ?_
  refine s_val hS5 rfl rfl (r_move rfl (.t rfl rfl)) ?_
  refine s_val hS5 rfl rfl (r_assign rfl (.t rfl rfl)) ?_
  refine s_val hS5 rfl rfl (r_assign rfl (.t rfl rfl)) ?_
  refine s_val hS5 rfl rfl (r_assign rfl .c) ?_
  refine wpList_nil ?_
  refine x_tn ?_
  refine k_reb [(4, .slice a1 R1.length R1.length), (5, .slice a2 R2.length R2.length), (6, .int .i64 0)] ⟨rfl, rfl, rfl, trivial⟩ fun G9 => ?_
  refine wp_ret ?_
  refine k_ret3 Tryd.results15 rfl rfl rfl rfl rfl rfl ?_
  refine ⟨_, rfl, ?_⟩
  exact ⟨R1, R2, _, _, rfl, hW8, hW9, hNR1, hNR2, by omega, by omega⟩

theorem DivMod_zero (w0 : World) (aA : Option Addr) (cA : Nat) (A : List Nat) (hA : Rd w0 .u32 aA cA A) (aB : Option Addr) (cB : Nat) (B : List Nat) (hB : Rd w0 .u32 aB cB B) (nA : Nm A) (nB : Nm B) (hB0 : B.length = 0) :
    Calls Tryd.prog 15 #[.slice aA A.length cA, .slice aB B.length cB] w0 (Ret fun v w' => v = .tuple #[.slice none 0 0, .slice none 0 0, .int .i64 23] ∧ St w0 [] [] w') := by
  refine k_enter (vs := [.slice aA A.length cA, .slice aB B.length cB]) Tryd.func15 rfl Tryd.ntmps15 rfl ?_
  have hS := St.init w0
  have lA := hA.le
  have lB := hB.le
  have lA2 := nA.len
  have lB2 := nB.len
  refine wp_seq ?_
  refine k_reg ?_
  refine s_val hS rfl rfl (r_assign rfl .c) ?_
  refine s_val hS rfl rfl (r_assign rfl .c) ?_
  refine s_val hS rfl rfl (r_assign rfl .c) ?_
  refine wpList_nil ?_
  refine x_tn ?_
  refine wp_seq ?_
  refine wp_seq ?_
  refine k_reg ?_
  refine s_val hS rfl rfl (r_move rfl (.t rfl rfl)) ?_
  refine s_val hS rfl rfl (r_move rfl (.t rfl rfl)) ?_
  refine s_call rfl rfl rfl (vs := [.slice aA A.length cA, .slice aB B.length cB]) ⟨(.t rfl rfl), (.t rfl rfl), trivial⟩ cb40 (both_nm w0 aA cA A hA aB cB B hB nA nB) ?_
  intro v1 w1 hp1
  obtain ⟨hp1, hB1⟩ := hp1
  have hS1 := hS.keep hB1
  replace hB1 := hB1.toBelow
  obtain rfl := hp1
  refine s_val hS1 rfl rfl (r_assign rfl (.t rfl rfl)) ?_
  refine wpList_nil ?_
  refine x_tn ?_
  refine k_reb [(0, .slice aA A.length cA), (1, .slice aB B.length cB), (4, .slice none 0 0), (5, .slice none 0 0), (6, .int .i64 0), (7, .int .i64 0)] ⟨rfl, rfl, rfl, rfl, rfl, rfl, trivial⟩ fun G1 => ?_
  refine wp_seq ?_
  refine k_reg ?_
  refine s_val hS1 rfl rfl (r_move rfl (.t rfl rfl)) ?_
  refine s_val hS1 rfl rfl (r_cmp_f rfl rfl (.t rfl rfl) .c (show ¬ (¬ 0 = 0) from by omega)) ?_
  refine wpList_nil ?_
  refine x_tn ?_
  refine k_reb [(0, .slice aA A.length cA), (1, .slice aB B.length cB), (4, .slice none 0 0), (5, .slice none 0 0), (6, .int .i64 0), (7, .int .i64 0), (14, .bool false)] ⟨rfl, rfl, rfl, rfl, rfl, rfl, rfl, trivial⟩ fun G2 => ?_
  refine k_f (.t rfl rfl) ?_
  refine wp_skip ?_
  refine x_tn ?_
  refine k_reb [(0, .slice aA A.length cA), (1, .slice aB B.length cB), (4, .slice none 0 0), (5, .slice none 0 0), (6, .int .i64 0)] ⟨rfl, rfl, rfl, rfl, rfl, trivial⟩ fun G3 => ?_
  refine wp_seq ?_
  refine wp_seq ?_
  refine k_reg ?_
  refine s_val hS1 rfl rfl (r_move rfl (.t rfl rfl)) ?_
  refine s_val hS1 rfl rfl (r_len rfl rfl Tryd.underlying27 (.t rfl rfl)) ?_
  refine s_val hS1 rfl rfl (r_cmp_t rfl rfl (.t rfl rfl) .c (show ((B.length : Nat) : Int) = 0 from (by omega))) ?_
  refine wpList_nil ?_
  refine x_tn ?_
  refine k_reb [(0, .slice aA A.length cA), (1, .slice aB B.length cB), (4, .slice none 0 0), (5, .slice none 0 0), (6, .int .i64 0), (18, .bool true)] ⟨rfl, rfl, rfl, rfl, rfl, rfl, trivial⟩ fun G4 => ?_
  refine k_t (.t rfl rfl) ?_
  refine wp_seq ?_
  refine k_reg ?_
  refine s_val hS1 rfl rfl (r_assign rfl .c) ?_
  refine s_val hS1 rfl rfl (r_assign rfl .c) ?_
  refine s_val hS1 rfl rfl (r_assign rfl .c) ?_
  refine wpList_nil ?_
  refine x_tn ?_
  refine k_reb [(0, .slice aA A.length cA), (1, .slice aB B.length cB), (4, .slice none 0 0), (5, .slice none 0 0), (6, .int .i64 23)] ⟨rfl, rfl, rfl, rfl, rfl, trivial⟩ fun G5 => ?_
  refine wp_ret ?_
  refine x_tr ?_
  refine k_ret3 Tryd.results15 rfl rfl rfl rfl rfl rfl ?_
  refine ⟨_, rfl, ?_⟩
  exact ⟨rfl, hS1⟩

theorem Gcd_ok (w0 : World) (aA : Option Addr) (cA : Nat) (A : List Nat) (hA : Rd w0 .u32 aA cA A) (aB : Option Addr) (cB : Nat) (B : List Nat) (hB : Rd w0 .u32 aB cB B) (nA : Nm A) (nB : Nm B) :
    Calls Tryd.prog 64 #[.slice aA A.length cA, .slice aB B.length cB] w0 (Ret fun v w' => ∃ L u, v = .tuple #[u, .int .i64 0] ∧ Ow w0 w' .u32 38 u L ∧ Nm L ∧ lv L = Nat.gcd (lv A) (lv B)) := by
  refine k_enter (vs := [.slice aA A.length cA, .slice aB B.length cB]) Tryd.func64 rfl Tryd.ntmps64 rfl ?_
  have hS := St.init w0
  have lA := hA.le
  have lB := hB.le
  have lA2 := nA.len
  have lB2 := nB.len
  refine wp_seq ?_
  refine k_reg ?_
  refine s_val hS rfl rfl (r_assign rfl .c) ?_
  refine s_val hS rfl rfl (r_assign rfl .c) ?_
  refine wpList_nil ?_
  refine x_tn ?_
  refine wp_seq ?_
  refine wp_seq ?_
  refine k_reg ?_
  refine s_val hS rfl rfl (r_move rfl (.t rfl rfl)) ?_
  refine s_val hS rfl rfl (r_move rfl (.t rfl rfl)) ?_
  refine s_call rfl rfl rfl (vs := [.slice aA A.length cA, .slice aB B.length cB]) ⟨(.t rfl rfl), (.t rfl rfl), trivial⟩ cb40 (both_nm w0 aA cA A hA aB cB B hB nA nB) ?_
  intro v1 w1 hp1
  obtain ⟨hp1, hB1⟩ := hp1
  have hS1 := hS.keep hB1
  replace hB1 := hB1.toBelow
  obtain rfl := hp1
  refine s_val hS1 rfl rfl (r_assign rfl (.t rfl rfl)) ?_
  refine wpList_nil ?_
  refine x_tn ?_
  refine k_reb [(0, .slice aA A.length cA), (1, .slice aB B.length cB), (4, .slice none 0 0), (5, .int .i64 0), (6, .int .i64 0)] ⟨rfl, rfl, rfl, rfl, rfl, trivial⟩ fun G1 => ?_
  refine wp_seq ?_
  refine k_reg ?_
  refine s_val hS1 rfl rfl (r_move rfl (.t rfl rfl)) ?_
  refine s_val hS1 rfl rfl (r_cmp_f rfl rfl (.t rfl rfl) .c (show ¬ (¬ 0 = 0) from by omega)) ?_
  refine wpList_nil ?_
  refine x_tn ?_
  refine k_reb [(0, .slice aA A.length cA), (1, .slice aB B.length cB), (4, .slice none 0 0), (5, .int .i64 0), (6, .int .i64 0), (15, .bool false)] ⟨rfl, rfl, rfl, rfl, rfl, rfl, trivial⟩ fun G2 => ?_
  refine k_f (.t rfl rfl) ?_
  refine wp_skip ?_
  refine x_tn ?_
  refine k_reb [(0, .slice aA A.length cA), (1, .slice aB B.length cB), (4, .slice none 0 0), (5, .int .i64 0)] ⟨rfl, rfl, rfl, rfl, trivial⟩ fun G3 => ?_
  refine wp_seq ?_
  refine k_reg ?_
  refine s_val hS1 rfl rfl (r_move rfl (.t rfl rfl)) ?_
  refine s_call rfl rfl rfl (vs := [.slice aA A.length cA]) ⟨(.t rfl rfl), trivial⟩ cb92 (cloneN_A w1 aA cA A (rd_st hS1 hA (by simp)) (by omega)) ?_
  intro v2 w2 hp2
  obtain ⟨a1, c1, rfl, hR1, -, hT1⟩ := id hp2
  have hW1 := Ow.from_ hS1 hp2
  have hS2 := hS1.keep hT1
  refine s_val hS2 rfl rfl (r_move rfl (.t rfl rfl)) ?_
  refine s_call rfl rfl rfl (vs := [.slice aB B.length cB]) ⟨(.t rfl rfl), trivial⟩ cb92 (cloneN_A w2 aB cB B (rd_st hS2 hB (by simp)) (by omega)) ?_
  intro v3 w3 hp3
  obtain ⟨a2, c2, rfl, hR2, -, hT2⟩ := id hp3
  have hW2 := Ow.from_ hS2 hp3
  have hS3 := hS2.keep hT2
  have hR3 := hR1.below hT2.toBelow (Nat.le_refl _)
  have hW3 := hW1.later hT2.toBelow
  refine s_val hS3 rfl rfl (r_assign rfl (.t rfl rfl)) ?_
  refine s_val hS3 rfl rfl (r_assign rfl (.t rfl rfl)) ?_
  refine wpList_nil ?_
  refine x_tn ?_
  refine k_reb [(4, .slice none 0 0), (5, .int .i64 0), (7, .slice a1 A.length c1), (8, .slice a2 B.length c2)] ⟨rfl, rfl, rfl, rfl, trivial⟩ fun G4 => ?_
  refine wp_seq ?_
  refine wp_block ?_
  refine wp_loop_ghost (fun (m1 : Nat) a w => ∃ (G : Nat → Value) (aX : Option Addr) (cX : Nat) (X : List Nat) (aY : Option Addr) (cY : Nat) (Y : List Nat), a = fr 37 [(4, .slice none 0 0), (5, .int .i64 0), (7, .slice aX X.length cX), (8, .slice aY Y.length cY)] G ∧ St w0 [] [] w ∧ (m1 = lv Y ∧ Ow w0 w .u32 38 (.slice aX X.length cX) X ∧ Nm X ∧ Ow w0 w .u32 38 (.slice aY Y.length cY) Y ∧ Nm Y ∧ Nat.gcd (lv X) (lv Y) = Nat.gcd (lv A) (lv B))) (lv B) ⟨_, a1, c1, A, a2, c2, B, fr_reb _ ⟨rfl, rfl, rfl, rfl, trivial⟩, hS3, ?_⟩ ?_
  · exact ⟨rfl, hW3, nA, hW2, nB, rfl⟩
  · intro m1 _ w4 hI1
    obtain ⟨G5, aX, cX, X, aY, cY, Y, rfl, hS4, ⟨hm, hOX, hNX, hOY, hNY, hg⟩⟩ := hI1
    have hRX := hOX.rd
    have hnX := hNX.len
    have hRY := hOY.rd
    have hnY := hNY.len
    refine wp_seq ?_
    refine wp_seq ?_
    refine k_reg ?_
    refine s_val hS4 rfl rfl (r_move rfl (.t rfl rfl)) ?_
    refine s_val hS4 rfl rfl (r_len rfl rfl Tryd.underlying27 (.t rfl rfl)) ?_
    by_cases c3 : Y.length > 0
    · refine s_val hS4 rfl rfl (r_cmp_t rfl rfl (.t rfl rfl) .c (show ((Y.length : Nat) : Int) > 0 from by omega)) ?_
      refine wpList_nil ?_
      refine x_tn ?_
      refine k_reb [(4, .slice none 0 0), (5, .int .i64 0), (7, .slice aX X.length cX), (8, .slice aY Y.length cY), (23, .bool true)] ⟨rfl, rfl, rfl, rfl, rfl, trivial⟩ fun G6 => ?_
      refine k_t (.t rfl rfl) ?_
      refine wp_skip ?_
      refine x_tn ?_
      refine k_reb [(4, .slice none 0 0), (5, .int .i64 0), (7, .slice aX X.length cX), (8, .slice aY Y.length cY)] ⟨rfl, rfl, rfl, rfl, trivial⟩ fun G7 => ?_
      refine wp_block ?_
      refine wp_seq ?_
      refine k_reg ?_
      refine s_val hS4 rfl rfl (r_move rfl (.t rfl rfl)) ?_
      refine s_val hS4 rfl rfl (r_move rfl (.t rfl rfl)) ?_
      have hyp := lv_pos hNY.nz (by omega)
      have hTX := nm_lt hNX
      refine s_call rfl rfl rfl (vs := [.slice aX X.length cX, .slice aY Y.length cY]) ⟨(.t rfl rfl), (.t rfl rfl), trivial⟩ cb41 (divide_ok w4 aX cX X hRX aY cY Y hRY hNX hNY (by omega)) ?_
      intro v4 w5 hp4
      obtain ⟨Q, R, _, _, rfl, hp4, hq1, ⟨hQlim, hRlim, hQv, hRv, hQl, hRl⟩⟩ := hp4
      obtain ⟨a3, c4, rfl, hR4, -, hT3⟩ := id hp4
      have hW4 := Ow.from_ hS4 hp4
      have hS5 := hS4.keep hT3
      have hR5 := hRX.below hT3.toBelow (Nat.le_refl _)
      have hR6 := hRY.below hT3.toBelow (Nat.le_refl _)
      have hW5 := hOX.later hT3.toBelow
      have hW6 := hOY.later hT3.toBelow
      obtain ⟨a4, c5, rfl, hR7, -, hT4⟩ := id hq1
      have hW7 := Ow.from_ hS4 hq1
      refine s_val hS5 rfl rfl (r_move rfl (.t rfl rfl)) ?_
      refine s_val hS5 rfl rfl (r_extract rfl (.t rfl rfl) rfl) ?_
      refine s_val hS5 rfl rfl (r_extract rfl (.t rfl rfl) rfl) ?_
      refine s_val hS5 rfl rfl (r_assign rfl (.t rfl rfl)) ?_
      refine s_val hS5 rfl rfl (r_assign rfl (.t rfl rfl)) ?_
      refine wpList_nil ?_
      refine x_tn ?_
      refine k_reb [(4, .slice none 0 0), (5, .int .i64 0), (7, .slice aX X.length cX), (8, .slice aY Y.length cY), (10, .slice a4 R.length c5)] ⟨rfl, rfl, rfl, rfl, rfl, trivial⟩ fun G8 => ?_
      refine wp_seq ?_
      refine k_reg ?_
      refine s_val hS5 rfl rfl (r_move rfl (.t rfl rfl)) ?_
      refine s_val hS5 rfl rfl (r_assign rfl (.t rfl rfl)) ?_
      refine wpList_nil ?_
      refine x_tn ?_
      refine k_reb [(4, .slice none 0 0), (5, .int .i64 0), (7, .slice aY Y.length cY), (8, .slice aY Y.length cY), (10, .slice a4 R.length c5)] ⟨rfl, rfl, rfl, rfl, rfl, trivial⟩ fun G9 => ?_
      refine k_reg ?_
      refine s_val hS5 rfl rfl (r_move rfl (.t rfl rfl)) ?_
      have hrv := hRv
      refine s_call rfl rfl rfl (vs := [.slice a4 R.length c5]) ⟨(.t rfl rfl), trivial⟩ cb28 (normal_fit w5 a4 c5 R hR7 (by omega) (by rw [hRv]; exact Nat.lt_of_le_of_lt (Nat.mod_le _ _) hTX)) ?_
      intro v5 w6 hp5
      obtain ⟨hp5, hB2⟩ := hp5
      have hS7 := hS5.keep hB2
      replace hB2 := hB2.toBelow
      have hR8 := hR6.below hB2 (Nat.le_refl _)
      have hR9 := hR7.below hB2 (Nat.le_refl _)
      have hW8 := hW5.later hB2
      have hW9 := hW6.later hB2
      have hW10 := hW4.later hB2
      have hW11 := hW7.later hB2
      obtain ⟨R1, X1, hE1, hNR1, hlR1, rfl⟩ := hp5
      have hnR1 := hNR1.len
      have hR10 := Rd.front_eq hE1 hR9
      have hW12 := Ow.front_eq hE1 hW11
      refine s_val hS7 rfl rfl (r_move rfl (.t rfl rfl)) ?_
      refine s_val hS7 rfl rfl (r_extract rfl (.t rfl rfl) rfl) ?_
      refine s_val hS7 rfl rfl (r_extract rfl (.t rfl rfl) rfl) ?_
      refine s_val hS7 rfl rfl (r_assign rfl (.t rfl rfl)) ?_
      refine wpList_nil ?_
      refine x_bn ?_
      refine x_tn ?_
      refine ⟨lv R1, (by rw [hlR1, hrv]; rw [hm]; exact Nat.mod_lt _ hyp), _, aY, cY, Y, a4, R1.length, R1, fr_reb _ ⟨rfl, rfl, rfl, rfl, trivial⟩, hS7, ?_⟩
      exact ⟨rfl, hW9, hNY, hW12, hNR1, by rw [hlR1, hrv, ← hg]; exact gcd_step _ _⟩
    · refine s_val hS4 rfl rfl (r_cmp_f rfl rfl (.t rfl rfl) .c (show ¬ (((Y.length : Nat) : Int) > 0) from by omega)) ?_
      refine wpList_nil ?_
      refine x_tn ?_
      refine k_reb [(4, .slice none 0 0), (5, .int .i64 0), (7, .slice aX X.length cX), (8, .slice aY Y.length cY), (23, .bool false)] ⟨rfl, rfl, rfl, rfl, rfl, trivial⟩ fun G10 => ?_
      refine k_f (.t rfl rfl) ?_
      refine wp_exit ?_
      refine x_te ?_
      refine x_te ?_
      refine x_be ?_
      refine x_tn ?_
      refine k_reb [(4, .slice none 0 0), (5, .int .i64 0), (7, .slice aX X.length cX)] ⟨rfl, rfl, rfl, trivial⟩ fun G11 => ?_
      refine wp_seq ?_
      refine k_reg ?_
      refine s_val hS4 rfl rfl (r_move rfl (.t rfl rfl)) ?_
      refine s_val hS4 rfl rfl (r_assign rfl (.t rfl rfl)) ?_
      refine s_val hS4 rfl rfl (r_assign rfl .c) ?_
      refine wpList_nil ?_
      refine x_tn ?_
      refine k_reb [(4, .slice aX X.length cX), (5, .int .i64 0)] ⟨rfl, rfl, trivial⟩ fun G12 => ?_
      refine wp_ret ?_
      refine k_ret2 Tryd.results64 rfl rfl rfl rfl ?_
      refine ⟨_, rfl, ?_⟩
      have hy0 : Y = [] := List.eq_nil_of_length_eq_zero (by omega)
      subst hy0
      exact ⟨X, _, rfl, hOX, hNX, by rw [← hg]; simp [lv]⟩

end Go.Proofs.YtnbklceenfjojaaDoor
