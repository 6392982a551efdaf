/- The engine's operations: one lemma each. -/
import Derived.Test.YtdmiklegahdafaaKCore
import Derived.OwnWalk
import Derived.Laws.MakeOwn
namespace Go.Proofs.Ytdmiklegahdafaa.K
open Go Go.RowKit

set_option linter.unusedSimpArgs false
set_option linter.unusedVariables false
variable {P : Program} {ops : Array Oper} {Q : Exit → Act → World → Prop} {rest : List Oper} {o : Oper} {n : Nat} {l : Asc} {G : Nat → Value} {D : List Deferred} {w w0 : World} {S : List Nat} {h : Hp} {C : World → Prop}

/-! numbers -/
theorem w_i64 {x c : Int} (e : x = c) (h1 : -9223372036854775808 ≤ c) (h2 : c ≤ 9223372036854775807) : IntKind.i64.wrap x = c := by rw [IntKind.wrap_i64]; omega
theorem w_u64 {x c : Int} (e : x = c) (h1 : 0 ≤ c) (h2 : c ≤ 18446744073709551615) : IntKind.u64.wrap x = c := by subst e; simp only [IntKind.wrap, IntKind.bits, IntKind.signed]; simp; omega
theorem w_u32 {x c : Int} (e : x = c) (h1 : 0 ≤ c) (h2 : c ≤ 4294967295) : IntKind.u32.wrap x = c := by rw [IntKind.wrap_u32]; omega
theorem w_u8 {x c : Int} (e : x = c) (h1 : 0 ≤ c) (h2 : c ≤ 255) : IntKind.u8.wrap x = c := by rw [IntKind.wrap_u8]; omega
theorem wn_i64 {x : Int} {c : Nat} (e : x = (c : Int)) (h : c ≤ 9223372036854775807) : IntKind.i64.wrap x = (c : Int) := w_i64 e (by omega) (by omega)
theorem wn_u64 {x : Int} {c : Nat} (e : x = (c : Int)) (h : c ≤ 18446744073709551615) : IntKind.u64.wrap x = (c : Int) := w_u64 e (by omega) (by omega)
theorem wn_u32 {x : Int} {c : Nat} (e : x = (c : Int)) (h : c ≤ 4294967295) : IntKind.u32.wrap x = (c : Int) := w_u32 e (by omega) (by omega)
theorem wn_u8 {x : Int} {c : Nat} (e : x = (c : Int)) (h : c ≤ 255) : IntKind.u8.wrap x = (c : Int) := w_u8 e (by omega) (by omega)
theorem tdiv_nat {m p : Nat} : ((m : Int)).tdiv (p : Int) = ((m / p : Nat) : Int) := (Int.ofNat_tdiv m p).symm
theorem tmod_nat {m p : Nat} : ((m : Int)).tmod (p : Int) = ((m % p : Nat) : Int) := (Int.ofNat_tmod m p).symm
theorem nz_nat {p : Nat} (h : p ≠ 0) : (p : Int) ≠ 0 := by omega
theorem wm_u64 {x : Int} {m : Nat} (e : x = (m : Int)) : IntKind.u64.wrap x = ((m % 18446744073709551616 : Nat) : Int) := by subst e; simp only [IntKind.wrap, IntKind.bits, IntKind.signed]; simp
theorem wm_u32 {x : Int} {m : Nat} (e : x = (m : Int)) : IntKind.u32.wrap x = ((m % 4294967296 : Nat) : Int) := by subst e; rw [IntKind.wrap_u32]; omega
theorem wm_u8 {x : Int} {m : Nat} (e : x = (m : Int)) : IntKind.u8.wrap x = ((m % 256 : Nat) : Int) := by subst e; rw [IntKind.wrap_u8]; omega

theorem run_u {t : TypeId} {d : TypeDesc} (h : P.underlying t = some d) (w : World) : (underlying t).run P w = .ok d w := run_underlying h w

/-! values -/
theorem r_move {x : Operand} {v : Value} (ho : o.op = .move x) (hx : Ev n l x v) : Rn P o n l C v := by
  intro G D w _; unfold execOp; rw [ho]; simp [hx G D]
theorem r_assign {x : Operand} {v : Value} (ho : o.op = .assign x) (hx : Ev n l x v) : Rn P o n l C v := by
  intro G D w _; unfold execOp; rw [ho]; simp [hx G D]
theorem r_pick {c x y : Operand} {b : Bool} {v : Value} (ho : o.op = .pick c x y) (hc : Ev n l c (.bool b)) (hx : Ev n l (if b then x else y) v) : Rn P o n l C v := by
  intro G D w _; unfold execOp; rw [ho]; simp only [hc G D]
  cases b
  · have := hx G D; simp at this; simp [asBool, this]
  · have := hx G D; simp at this; simp [asBool, this]
theorem r_extract {x : Operand} {i : Nat} {vs : Array Value} {v : Value} (ho : o.op = .extract x i) (hx : Ev n l x (.tuple vs)) (hv : vs[i]? = some v) : Rn P o n l C v := by
  intro G D w _; unfold execOp; rw [ho]; simp [hx G D, Instr.extract, hv]
theorem r_len {x : Operand} {t e : TypeId} {ts : Array TypeId} {a : Option Addr} {len cap : Nat} (ho : o.op = .call { callee := .builtin .len, args := #[x], argTypes := ts }) (hts : ts[0]? = some t) (ht : P.underlying t = some (.slice e))
    (hx : Ev n l x (.slice a len cap)) : Rn P o n l C (.int .i64 len) := by
  intro G D w _; unfold execOp; rw [ho]; simp [resolve, invoke, builtin, hx G D, Builtin.len_, hts, run_underlying ht, goInt]
theorem r_lens {x : Operand} {t : TypeId} {ts : Array TypeId} {s : ByteArray} (ho : o.op = .call { callee := .builtin .len, args := #[x], argTypes := ts }) (hts : ts[0]? = some t) (ht : P.underlying t = some .string)
    (hx : Ev n l x (.string s)) : Rn P o n l C (.int .i64 s.size) := by
  intro G D w _; unfold execOp; rw [ho]; simp [resolve, invoke, builtin, hx G D, Builtin.len_, hts, run_underlying ht, goInt]

def intOp : BinOp → Bool | .add | .sub | .mul => true | _ => false
def intRes (op : BinOp) (a b : Int) : Int := match op with | .add => a + b | .sub => a - b | .mul => a * b | _ => 0
theorem r_arith {op : BinOp} {t u : TypeId} {x y : Operand} {k : IntKind} {a b c : Int} (ho : o.op = .binOp op t x y u) (hop : intOp op = true) (hx : Ev n l x (.int k a)) (hy : Ev n l y (.int k b)) (hc : k.wrap (intRes op a b) = c) :
    Rn P o n l C (.int k c) := by
  intro G D w _; unfold execOp; rw [ho]
  cases op <;> simp [intOp] at hop <;> simp only [intRes] at hc <;> simp [hx G D, hy G D, eqGuard, binOp, Op.intArith, hc]
theorem r_quo {t u : TypeId} {x y : Operand} {k : IntKind} {a b : Int} {c : Int} (ho : o.op = .binOp .quo t x y u) (hx : Ev n l x (.int k a)) (hy : Ev n l y (.int k b)) (hb : b ≠ 0) (hc : k.wrap (a.tdiv b) = c) : Rn P o n l C (.int k c) := by
  intro G D w _; unfold execOp; rw [ho]; simp [hx G D, hy G D, eqGuard, binOp, Op.intDiv, hb, hc]
theorem r_rem {t u : TypeId} {x y : Operand} {k : IntKind} {a b : Int} {c : Int} (ho : o.op = .binOp .rem t x y u) (hx : Ev n l x (.int k a)) (hy : Ev n l y (.int k b)) (hb : b ≠ 0) (hc : a.tmod b = c) : Rn P o n l C (.int k c) := by
  intro G D w _; unfold execOp; rw [ho]; simp [hx G D, hy G D, eqGuard, binOp, Op.intDiv, hb, hc]
theorem r_shl {t u : TypeId} {x y : Operand} {k ky : IntKind} {a s : Int} {p c : Int} (ho : o.op = .binOp .shl t x y u) (hx : Ev n l x (.int k a)) (hy : Ev n l y (.int ky s)) (hs : 0 ≤ s) (hp : (2 : Int) ^ min s.toNat k.bits = p) (hc : k.wrap (a * p) = c) : Rn P o n l C (.int k c) := by
  intro G D w _; unfold execOp; rw [ho]; subst hp
  have : ¬ s < 0 := by omega
  simp [hx G D, hy G D, eqGuard, binOp, Op.shift, this, hc]
theorem r_shr {t u : TypeId} {x y : Operand} {k ky : IntKind} {a s : Int} {p c : Int} (ho : o.op = .binOp .shr t x y u) (hx : Ev n l x (.int k a)) (hy : Ev n l y (.int ky s)) (hs : 0 ≤ s) (hp : (2 : Int) ^ min s.toNat k.bits = p) (hc : a.fdiv p = c) : Rn P o n l C (.int k c) := by
  intro G D w _; unfold execOp; rw [ho]; subst hp
  have : ¬ s < 0 := by omega
  simp [hx G D, hy G D, eqGuard, binOp, Op.shift, this, hc]
theorem fdiv_nat {m p : Nat} : ((m : Int)).fdiv (p : Int) = ((m / p : Nat) : Int) := (Int.ofNat_fdiv m p).symm

def topK : IntKind → Nat | .u8 | .i8 => 256 | .u16 | .i16 => 65536 | .u32 | .i32 => 4294967296 | .u64 | .i64 => 18446744073709551616
theorem topK_eq (k : IntKind) : topK k = 2 ^ k.bits := by cases k <;> decide
/-- bits of numbers that are not below nought -/
def bitRes (op : BinOp) (a b : Nat) : Nat := match op with | .and => a &&& b | .or => a ||| b | .xor => a ^^^ b | _ => 0
def bitOp : BinOp → Bool | .and | .or | .xor => true | _ => false
theorem ofInt_nat (m k : Nat) : BitVec.ofInt k (m : Int) = BitVec.ofNat k m := by
  apply BitVec.eq_of_toNat_eq
  simp [BitVec.toNat_ofNat]
theorem r_bits {op : BinOp} {t u : TypeId} {x y : Operand} {k : IntKind} {a b : Nat} {c : Nat} (ho : o.op = .binOp op t x y u) (hop : bitOp op = true) (hx : Ev n l x (.int k (a : Int))) (hy : Ev n l y (.int k (b : Int)))
    (ha : a < topK k) (hb : b < topK k) (hr : bitRes op a b = c) (hw : k.wrap (c : Int) = (c : Int)) : Rn P o n l C (.int k (c : Int)) := by
  intro G D w _; unfold execOp; rw [ho]
  subst hr
  rw [topK_eq] at ha hb
  cases op <;> simp [bitOp] at hop <;> simp only [bitRes] at hw <;> simp [hx G D, hy G D, eqGuard, binOp, Op.intBits, ofInt_nat, bitRes, Nat.mod_eq_of_lt ha, Nat.mod_eq_of_lt hb, Nat.mod_eq_of_lt (Nat.and_lt_two_pow a hb), Nat.mod_eq_of_lt (Nat.or_lt_two_pow ha hb), Nat.mod_eq_of_lt (Nat.xor_lt_two_pow ha hb), hw]
theorem r_and {t u : TypeId} {x y : Operand} {k : IntKind} {a b : Nat} {c : Nat} (ho : o.op = .binOp .and t x y u) (hx : Ev n l x (.int k (a : Int))) (hy : Ev n l y (.int k (b : Int))) (ha : a < topK k) (hb : b < topK k) (hr : a &&& b = c) (hw : k.wrap (c : Int) = (c : Int)) : Rn P o n l C (.int k (c : Int)) := r_bits (op := .and) ho rfl hx hy ha hb hr hw
theorem r_or {t u : TypeId} {x y : Operand} {k : IntKind} {a b : Nat} {c : Nat} (ho : o.op = .binOp .or t x y u) (hx : Ev n l x (.int k (a : Int))) (hy : Ev n l y (.int k (b : Int))) (ha : a < topK k) (hb : b < topK k) (hr : a ||| b = c) (hw : k.wrap (c : Int) = (c : Int)) : Rn P o n l C (.int k (c : Int)) := r_bits (op := .or) ho rfl hx hy ha hb hr hw
theorem r_xor {t u : TypeId} {x y : Operand} {k : IntKind} {a b : Nat} {c : Nat} (ho : o.op = .binOp .xor t x y u) (hx : Ev n l x (.int k (a : Int))) (hy : Ev n l y (.int k (b : Int))) (ha : a < topK k) (hb : b < topK k) (hr : a ^^^ b = c) (hw : k.wrap (c : Int) = (c : Int)) : Rn P o n l C (.int k (c : Int)) := r_bits (op := .xor) ho rfl hx hy ha hb hr hw
/-- ^x of an unsigned number -/
theorem r_not {t : TypeId} {x : Operand} {k : IntKind} {a : Nat} (ho : o.op = .unOp .xor t x) (hx : Ev n l x (.int k (a : Int))) (hk : k.signed = false) (ha : a < topK k) : Rn P o n l C (.int k ((topK k - 1 - a : Nat) : Int)) := by
  intro G D w _; unfold execOp; rw [ho]
  rw [topK_eq] at ha ⊢
  have hmax : k.max = ((2 ^ k.bits - 1 : Nat) : Int) := by cases k <;> simp [IntKind.signed] at hk <;> rfl
  have hone : BitVec.ofNat k.bits (2 ^ k.bits - 1) = BitVec.allOnes k.bits := by
    apply BitVec.eq_of_toNat_eq; simp [BitVec.toNat_ofNat, BitVec.toNat_allOnes]
  have e1 : (BitVec.allOnes k.bits ^^^ BitVec.ofNat k.bits a) = ~~~ BitVec.ofNat k.bits a := by simp
  have e2 : (BitVec.ofInt k.bits k.max ^^^ BitVec.ofInt k.bits (a : Int)).toNat = 2 ^ k.bits - 1 - a := by
    rw [hmax, ofInt_nat, ofInt_nat, hone, e1, BitVec.toNat_not, BitVec.toNat_ofNat, Nat.mod_eq_of_lt ha]
  have e3 : k.wrap ((2 ^ k.bits - 1 - a : Nat) : Int) = ((2 ^ k.bits - 1 - a : Nat) : Int) := by
    cases k <;> simp [IntKind.signed] at hk <;> simp only [IntKind.bits] at ha ⊢ <;> simp [IntKind.wrap, IntKind.bits, IntKind.signed] <;> omega
  simp only [hx G D, Op.unary, hk, Bool.false_eq_true, if_false, Op.intBits, e2, e3]
  simp
theorem r_neg {t : TypeId} {x : Operand} {k : IntKind} {a c : Int} (ho : o.op = .unOp .neg t x) (hx : Ev n l x (.int k a)) (hc : k.wrap (0 - a) = c) : Rn P o n l C (.int k c) := by
  intro G D w _; unfold execOp; rw [ho]; simp only [hx G D, Op.unary, Op.intArith, hc]; simp
theorem r_lnot {t : TypeId} {x : Operand} {b : Bool} (ho : o.op = .unOp .not t x) (hx : Ev n l x (.bool b)) : Rn P o n l C (.bool !b) := by
  intro G D w _; unfold execOp; rw [ho]; simp [hx G D, Op.unary]

def cmpOp : BinOp → Bool | .eql | .neq | .lss | .leq | .gtr | .geq => true | _ => false
def cmpP (op : BinOp) (a b : Int) : Prop := match op with | .eql => a = b | .neq => ¬ a = b | .lss => a < b | .leq => a ≤ b | .gtr => a > b | .geq => a ≥ b | _ => False
theorem r_cmp_t {op : BinOp} {t u : TypeId} {x y : Operand} {k : IntKind} {a b : Int} (ho : o.op = .binOp op t x y u) (hop : cmpOp op = true) (hx : Ev n l x (.int k a)) (hy : Ev n l y (.int k b)) (hc : cmpP op a b) : Rn P o n l C (.bool true) := by
  intro G D w _; unfold execOp; rw [ho]
  cases op <;> simp [cmpOp] at hop <;> simp only [cmpP] at hc <;> simp [hx G D, hy G D, eqGuard, binOp, Op.intCmp, hc] <;> omega
theorem r_cmp_f {op : BinOp} {t u : TypeId} {x y : Operand} {k : IntKind} {a b : Int} (ho : o.op = .binOp op t x y u) (hop : cmpOp op = true) (hx : Ev n l x (.int k a)) (hy : Ev n l y (.int k b)) (hc : ¬ cmpP op a b) : Rn P o n l C (.bool false) := by
  intro G D w _; unfold execOp; rw [ho]
  cases op <;> simp [cmpOp] at hop <;> simp only [cmpP] at hc <;> simp [hx G D, hy G D, eqGuard, binOp, Op.intCmp] <;> omega
/-- == and != of bools; a slice, a map against nil -/
theorem equal_of {t : TypeId} {x y : Value} {b : Bool} (h : ∀ d w, (Op.equalIn (d + 1) t x y).run P w = .ok b w) (w : World) : (Op.equal t x y).run P w = .ok b w := h 9999 w
theorem run_eql {t u : TypeId} {x y : Operand} {a c : Value} {b : Bool} (ho : o.op = .binOp .eql t x y u) (hx : Ev n l x a) (hy : Ev n l y c) (hb : ∀ w, (binOp .eql t a c).run P w = .ok (.bool b) w) (he : ∀ w, (eqGuard .eql t x y a c).run P w = .ok () w) : Rn P o n l C (.bool b) := by
  intro G D w _; unfold execOp; rw [ho]; simp only [hx G D, hy G D]; simp [he w, hb w]
theorem run_neq {t u : TypeId} {x y : Operand} {a c : Value} {b : Bool} (ho : o.op = .binOp .neq t x y u) (hx : Ev n l x a) (hy : Ev n l y c) (hb : ∀ w, (binOp .neq t a c).run P w = .ok (.bool b) w) (he : ∀ w, (eqGuard .neq t x y a c).run P w = .ok () w) : Rn P o n l C (.bool b) := by
  intro G D w _; unfold execOp; rw [ho]; simp only [hx G D, hy G D]; simp [he w, hb w]
theorem eq_bool {t : TypeId} (ht : P.underlying t = some .bool) (a b : Bool) (w : World) : (Op.equal t (.bool a) (.bool b)).run P w = .ok (a == b) w :=
  equal_of (fun d w => by simp [Op.equalIn, run_underlying ht]) w
theorem r_eqb {t u : TypeId} {x y : Operand} {a b : Bool} (ho : o.op = .binOp .eql t x y u) (ht : P.underlying t = some .bool) (hx : Ev n l x (.bool a)) (hy : Ev n l y (.bool b)) : Rn P o n l C (.bool (a == b)) :=
  run_eql ho hx hy (fun w => by simp [binOp, eq_bool ht]) (fun w => by simp [eqGuard])
theorem r_neb {t u : TypeId} {x y : Operand} {a b : Bool} (ho : o.op = .binOp .neq t x y u) (ht : P.underlying t = some .bool) (hx : Ev n l x (.bool a)) (hy : Ev n l y (.bool b)) : Rn P o n l C (.bool (!(a == b))) :=
  run_neq ho hx hy (fun w => by simp [binOp, eq_bool ht]) (fun w => by simp [eqGuard])
theorem eq_nil_sl {t e : TypeId} (ht : P.underlying t = some (.slice e)) (a : Option Addr) (p q : Nat) (w : World) : (Op.equal t (.slice a p q) (.slice none 0 0)).run P w = .ok a.isNone w :=
  equal_of (fun d w => by cases a <;> simp [Op.equalIn, run_underlying ht]) w
theorem r_eqnil {t u e : TypeId} {x y : Operand} {a : Option Addr} {p q : Nat} (ho : o.op = .binOp .eql t x y u) (ht : P.underlying t = some (.slice e)) (hx : Ev n l x (.slice a p q)) (hy : Ev n l y (.slice none 0 0)) : Rn P o n l C (.bool a.isNone) :=
  run_eql ho hx hy (fun w => by simp [binOp, eq_nil_sl ht]) (fun w => by simp [eqGuard])
theorem r_nenil {t u e : TypeId} {x y : Operand} {a : Option Addr} {p q : Nat} (ho : o.op = .binOp .neq t x y u) (ht : P.underlying t = some (.slice e)) (hx : Ev n l x (.slice a p q)) (hy : Ev n l y (.slice none 0 0)) : Rn P o n l C (.bool !a.isNone) :=
  run_neq ho hx hy (fun w => by simp [binOp, eq_nil_sl ht]) (fun w => by simp [eqGuard])
theorem r_conv {s d : TypeId} {x : Operand} {k k' : IntKind} {ds : TypeDesc} {a c : Int} (ho : o.op = .convert s d x) (hs : P.underlying s = some ds) (hd : P.underlying d = some (.int k)) (hx : Ev n l x (.int k' a)) (hc : k.wrap a = c) : Rn P o n l C (.int k c) := by
  intro G D w _; unfold execOp; rw [ho]
  cases ds <;> simp [hx G D, convert, run_underlying hs, run_underlying hd, Conv.intToInt, hc]

/-! places -/
def TI (P : Program) (t : TypeId) (z : Value) (s b : Nat) : Prop := (P.info? t).map (fun i => (i.zero, i.size, i.bytes)) = some (some z, s, b)
theorem run_sizeOf {t : TypeId} {z : Value} {s b : Nat} (h : TI P t z s b) (w : World) : (sizeOf t).run P w = .ok s w := by
  obtain ⟨i, hi, _, h2, _⟩ := info_parts h
  simp [sizeOf, typeInfo, hi, h2]
theorem add_none (b q j : Nat) : (⟨b, q, none⟩ : Addr).add j = ⟨b, q + j, none⟩ := by
  unfold Addr.add; split
  · next h => rw [h]; rfl
  · rfl
theorem r_ixs {t e : TypeId} {x y : Operand} {b q len cap : Nat} {k : IntKind} {i : Int} {j sz by_ qq : Nat} {z : Value} (ho : o.op = .indexAddr t x y) (ht : P.underlying t = some (.slice e)) (hi : TI P e z sz by_)
    (hx : Ev n l x (.slice (some ⟨b, q, none⟩) len cap)) (hy : Ev n l y (.int k i)) (hj : i = (j : Int)) (hlt : j < len) (hq : q + j * sz = qq) : Rn P o n l C (.pointer (some ⟨b, qq, none⟩)) := by
  intro G D w _; unfold execOp; rw [ho]; subst hq hj
  have h1 : (0 : Int) ≤ j ∧ (j : Int) < len := by omega
  simp only [hx G D, hy G D, Instr.indexAt, asIntOf]
  simp [run_underlying ht, run_sizeOf hi, hlt, add_none]
/-- the address at which a slice begins -/
def adr (a : Option Addr) : Addr := a.getD ⟨0, 0, none⟩
def maxK : IntKind → Nat | .u8 => 255 | .u16 => 65535 | .u32 => 4294967295 | .u64 => 18446744073709551615 | .i64 => 9223372036854775807 | _ => 0
/-- a slice of whole numbers as it reads -/
structure Rd (w : World) (k : IntKind) (a : Option Addr) (cap : Nat) (l : List Nat) : Prop where
  le : l.length ≤ cap
  most : l.length ≤ 9223372036854775807
  at_ : ∀ j, j < l.length → a = some ⟨(adr a).block, (adr a).off, none⟩ ∧ (adr a).block < w.heap.size ∧ w.cell? ⟨(adr a).block, (adr a).off + j, none⟩ = some (.int k (l.getD j 0 : Nat))
  fit : ∀ x ∈ l, x ≤ maxK k
theorem Rd.lt {k : IntKind} {a : Option Addr} {cap : Nat} {A : List Nat} (hr : Rd w k a cap A) (j : Nat) : A.getD j 0 ≤ maxK k := by
  rcases Nat.lt_or_ge j A.length with h | h
  · rw [List.getD_eq_getElem?_getD, List.getElem?_eq_getElem h]; exact hr.fit _ (List.getElem_mem h)
  · rw [List.getD_eq_getElem?_getD, List.getElem?_eq_none h]; exact Nat.zero_le _
theorem Rd.below {w' : World} {B : Nat} {k : IntKind} {a : Option Addr} {cap : Nat} {A : List Nat} (hr : Rd w k a cap A) (hb : Below B w w') (hB : w.heap.size ≤ B) : Rd w' k a cap A :=
  ⟨hr.le, hr.most, fun j hj => by
    obtain ⟨h1, h2, h3⟩ := hr.at_ j hj
    exact ⟨h1, Nat.lt_of_lt_of_le h2 hb.size, by rw [hb.cell (by exact Nat.lt_of_lt_of_le h2 hB)]; exact h3⟩, hr.fit⟩
theorem Rd.nil {k : IntKind} : Rd w k none 0 [] := ⟨Nat.le_refl _, Nat.zero_le _, fun j hj => by simp at hj, by simp⟩
theorem r_ixr {t e : TypeId} {x y : Operand} {a : Option Addr} {cap len : Nat} {A : List Nat} {kk k : IntKind} {i : Int} {j by_ : Nat} {z : Value} (ho : o.op = .indexAddr t x y) (ht : P.underlying t = some (.slice e)) (hi : TI P e z 1 by_)
    (hx : Ev n l x (.slice a len cap)) (hy : Ev n l y (.int k i)) (hr : Rd w0 kk a cap A) (hl : A.length = len) (hj : i = (j : Int)) (hlt : j < len) : Rn P o n l C (.pointer (some ⟨(adr a).block, (adr a).off + j, none⟩)) := by
  subst hl
  have := (hr.at_ j hlt).1
  rw [this] at hx
  exact r_ixs ho ht hi hx hy hj hlt (by omega)
theorem St.cell_rd {k : IntKind} {a : Option Addr} {cap : Nat} {A : List Nat} (hr : Rd w0 k a cap A) {j : Nat} (hj : j < A.length) (hS : (adr a).block ∉ S) : ∀ w, St w0 S h w → w.cell? ⟨(adr a).block, (adr a).off + j, none⟩ = some (.int k (A.getD j 0 : Nat)) := by
  intro w s
  obtain ⟨_, h2, h3⟩ := hr.at_ j hj
  rw [← h3]
  exact World.cell?_of_block (w := w0) (s.old _ h2 hS)
theorem St.cell_own {m b q : Nat} {c : Array Value} {T : TypeId} {f : Nat × Nat} {v : Value} (hm : h[m]? = some (b, .cells c T f)) (hq : c[q]? = some v) : ∀ w, St w0 S h w → w.cell? ⟨b, q, none⟩ = some v := by
  intro w s
  have := s.own _ (List.mem_of_getElem? hm)
  simp only at this
  simp [World.cell?, this, hq]
/-- a type of one cell -/
def One (P : Program) (t : TypeId) : Bool := (match P.underlying t with | some (.struct _) | some (.array ..) | none => false | _ => true) && ((P.info? t).map (·.size) == some 1)
theorem run_isAgg_one {t : TypeId} (h1 : One P t = true) (w : World) : (isAgg t).run P w = .ok false w := by
  unfold One at h1
  cases hu : P.underlying t with
  | none => rw [hu] at h1; simp at h1
  | some d => rw [hu] at h1; cases d <;> first | (simp at h1; done) | simp [isAgg, run_underlying hu]
theorem run_sizeOf_one {t : TypeId} (h1 : One P t = true) (w : World) : (sizeOf t).run P w = .ok 1 w := by
  unfold One at h1
  simp only [Bool.and_eq_true, beq_iff_eq] at h1
  cases hi : P.info? t with
  | none => rw [hi] at h1; simp at h1
  | some i => rw [hi] at h1; simp at h1; simp [sizeOf, typeInfo, hi, h1.2]
theorem r_load {t : TypeId} {x : Operand} {b q : Nat} {v : Value} (ho : o.op = .load t x) (h1 : One P t = true) (hx : Ev n l x (.pointer (some ⟨b, q, none⟩))) (hc : ∀ w, C w → w.cell? ⟨b, q, none⟩ = some v) : Rn P o n l C v := by
  intro G D w hw; unfold execOp; rw [ho]
  have hcc := hc w hw
  simp [hx G D, Instr.loadAt, Instr.sureAddr, loadVar, run_isAgg_one h1, hcc]

/-! rows of whole numbers of one's own -/
def encN (k : IntKind) (L : List Nat) : Array Value := (L.map fun (x : Nat) => Value.int k (x : Int)).toArray
theorem encN_size {k : IntKind} {L : List Nat} : (encN k L).size = L.length := by simp [encN]
theorem encN_get {k : IntKind} {L : List Nat} {j : Nat} (h : j < L.length) : (encN k L)[j]? = some (.int k (L.getD j 0 : Nat)) := by
  simp [encN, h]
theorem encN_set {k : IntKind} {L : List Nat} {j x : Nat} : (encN k L).setIfInBounds j (.int k (x : Int)) = encN k (L.set j x) := by
  simp [encN, List.map_set]
theorem encN_nil {k : IntKind} : encN k [] = #[] := rfl
theorem encN_append {k : IntKind} {L M : List Nat} : encN k (L ++ M) = encN k L ++ encN k M := by simp [encN]

def oneC : Value → Bool | .agg _ | .tuple _ => false | _ => true
theorem run_store {t : TypeId} {a : Addr} {v : Value} (h1 : One P t = true) (hv : oneC v = true) {u : Value} (hc : w.cell? a = some u) (hf : w.frozen? a = false) : (storeVar t a v).run P w = .ok () (w.setCell a v) := by
  have hcells : v.cells = #[v] := by cases v <;> simp [oneC] at hv <;> rfl
  have hadd : a.add 0 = a := rfl
  simp only [storeVar, hcells, Sem.run_bind, run_sizeOf_one h1, Result.andThen_ok]
  simp only [List.size_toArray, List.length_cons, List.length_nil, Nat.zero_add, ne_eq, not_true_eq_false, if_false, storeCells, Sem.run_bind, hadd]
  have hst : (store a v).run P w = .ok () (w.setCell a v) := by
    cases v <;> simp [oneC] at hv <;> simp [store, Sem.run, hc, hf]
  rw [hst]
  simp
theorem s_store {t : TypeId} {x y : Operand} {b q m : Nat} {v u : Value} {c c' : Array Value} {T : TypeId} {h' : Hp} (hg : o.guard = none) (hd : o.dst = none) (ho : o.op = .store t x y) (h1 : One P t = true)
    (hx : Ev n l x (.pointer (some ⟨b, q, none⟩))) (hy : Ev n l y v) (hv : oneC v = true) (hS : St w0 S h w) (hm : h[m]? = some (b, .cells c T (0, 0))) (hq : c[q]? = some u) (hc : c.setIfInBounds q v = c') (hh : h.set m (b, .cells c' T (0, 0)) = h')
    (k : ∀ w', St w0 S h' w' → wpList P ops Q rest (fr n l G D) w') : wpList P ops Q (o :: rest) (fr n l G D) w := by
  have hcell := St.cell_own hm hq w hS
  have hb := hS.own _ (List.mem_of_getElem? hm)
  have hfz : w.frozen? ⟨b, q, none⟩ = false := by simp only at hb; simp [World.frozen?, hb]
  refine s_run0 (w' := w.setCell ⟨b, q, none⟩ v) hg hd ?_ (k _ ?_)
  · unfold execOp; rw [ho]
    simp [hx G D, hy G D, Instr.storeAt, Instr.sureAddr, run_store h1 hv hcell hfz]
  · subst hh hc; exact hS.setCell v hm
/-- make of whole numbers -/
theorem s_make {t e : TypeId} {x y : Operand} {k : IntKind} {len cap by_ d : Nat} {a b : Int} {ka kb : IntKind} (hg : o.guard = none) (hd : o.dst = some d) (ho : o.op = .makeSlice t x y) (ht : P.underlying t = some (.slice e)) (hi : TI P e (.int k 0) 1 by_)
    (hx : Ev n l x (.int ka a)) (hy : Ev n l y (.int kb b)) (ha : a = (len : Int)) (hb : b = (cap : Int)) (hlc : len ≤ cap) (hby : by_ * cap ≤ 281474976710656) (hcap : cap ≤ 281474976710656) (hS : St w0 S h w)
    (kk : ∀ b w', w.heap.size ≤ b → Below w.heap.size w w' → St w0 S (h ++ [(b, .cells (encN k (List.replicate cap 0)) e (0, 0))]) w' → wpList P ops Q rest (fr n ((d, .slice (some ⟨b, 0, none⟩) len cap) :: l) G D) w') : wpList P ops Q (o :: rest) (fr n l G D) w := by
  obtain ⟨i, hi1, hi2, hi3, hi4⟩ := info_parts hi
  subst ha hb
  have hby' : ((by_ * cap : Nat) : Int) ≤ 281474976710656 := by omega
  rw [Int.natCast_mul] at hby'
  have hr := run_make (P := P) w t e i (.int k 0) ht hi1 hi2 ka kb (len : Int) (cap : Int) (by omega) (by omega) (by rw [hi4]; exact hby') (by omega)
  have hmc : madeCells (Value.int k 0).cells ((cap : Int).toNat * i.size) = encN k (List.replicate cap 0) := by
    rw [hi3]
    apply Array.ext_getElem?
    intro j
    simp only [madeCells, encN, Int.toNat_natCast, Nat.mul_one, Value.cells]
    rcases Nat.lt_or_ge j cap with hj | hj
    · simp [hj, Nat.mod_one]
    · simp [Nat.not_lt.2 hj]
  rw [hmc, Int.toNat_natCast, Int.toNat_natCast] at hr
  refine s_run hg hd (w' := w.alloc (.cells (encN k (List.replicate cap 0)) e)) ?_ (kk _ _ (Nat.le_refl _) ((Below.refl _ w).alloc (Nat.le_refl _) _) (hS.alloc _))
  unfold execOp; rw [ho]
  simp only [hx G D, hy G D]
  rw [Sem.run_bind, hr]; rfl
theorem pw_var {s b : Nat} (h : s ≤ b) : (2 : Int) ^ min ((s : Int)).toNat b = ((2 ^ s : Nat) : Int) := by
  rw [Int.toNat_natCast, Nat.min_eq_left h]; simp
theorem rep_fit {X : Nat} (c q : Nat) : (List.replicate c 0).getD q 0 ≤ X := by
  rw [List.getD_eq_getElem?_getD, List.getElem?_replicate]; split <;> simp
theorem wms_u32 {m p : Nat} (h : p ≤ 4294967296) : IntKind.u32.wrap ((m : Int) - (p : Int)) = (((m + 4294967296 - p) % 4294967296 : Nat) : Int) := by
  rw [IntKind.wrap_u32]; omega
theorem wms_u64 {m p : Nat} (h : p ≤ 18446744073709551616) : IntKind.u64.wrap ((m : Int) - (p : Int)) = (((m + 18446744073709551616 - p) % 18446744073709551616 : Nat) : Int) := by
  simp only [IntKind.wrap, IntKind.bits, IntKind.signed]; simp; omega

/-! cuts -/
inductive Cb (n : Nat) (l : Asc) : Option Operand → Nat → Nat → Prop where
  | n {d : Nat} : Cb n l none d d
  | s {x : Operand} {k : IntKind} {hh d : Nat} (e : Ev n l x (.int k (hh : Int))) : Cb n l (some x) d hh
theorem run_bound {k : IntKind} {hh y : Nat} {code : BoundsCode} (hle : hh ≤ y) : (Instr.sliceBound (.int k (hh : Int)) y code).run P w = .ok hh w := by
  have h1 : (0 : Int) ≤ hh ∧ (hh : Int) ≤ y := by omega
  simp [Instr.sliceBound, asIntOf, hle]
theorem run_bounds {lo hi mx : Option Operand} {len cap lw hh m : Nat} (hlo : Cb n l lo 0 lw) (hhi : Cb n l hi len hh) (hmx : Cb n l mx cap m) (hmh : mx.isSome = true → hi.isSome = true) (h1 : lw ≤ hh) (h2 : hh ≤ m) (h3 : m ≤ cap) :
    (Instr.sliceBounds true len cap (lo.map (fr n l G D).eval) (hi.map (fr n l G D).eval) (mx.map (fr n l G D).eval)).run P w = .ok (lw, hh, m) w := by
  cases hmx with
  | n =>
    cases hhi with
    | n =>
      cases hlo with
      | n => simp [Instr.sliceBounds]
      | s e => simp [Instr.sliceBounds, e G D, run_bound h1]
    | s e2 =>
      cases hlo with
      | n => simp [Instr.sliceBounds, e2 G D, run_bound h2]
      | s e => simp [Instr.sliceBounds, e G D, e2 G D, run_bound h1, run_bound h2]
  | s e3 =>
    cases hhi with
    | n => simp at hmh
    | s e2 =>
      cases hlo with
      | n => simp [Instr.sliceBounds, e2 G D, e3 G D, run_bound h2, run_bound h3]
      | s e => simp [Instr.sliceBounds, e G D, e2 G D, e3 G D, run_bound h1, run_bound h2, run_bound h3]
theorem r_cut0 {t e : TypeId} {x : Operand} {hi mx : Option Operand} {a : Option Addr} {len cap hh m by_ : Nat} {z : Value} {sz : Nat} (ho : o.op = .slice t x none hi mx) (ht : P.underlying t = some (.slice e)) (hi_ : TI P e z sz by_) (hx : Ev n l x (.slice a len cap))
    (hhi : Cb n l hi len hh) (hmx : Cb n l mx cap m) (h2 : hh ≤ m) (h3 : m ≤ cap) (hmh : mx.isSome = true → hi.isSome = true := by simp) : Rn P o n l C (.slice a hh m) := by
  intro G D w _; unfold execOp; rw [ho]
  have hb := run_bounds (P := P) (G := G) (D := D) (w := w) (lo := none) .n hhi hmx hmh (Nat.zero_le _) h2 h3
  simp only [Option.map_none] at hb
  simp only [hx G D, Option.map_none]
  simp [Instr.sliceAt, Instr.slice, run_underlying ht, hb, run_sizeOf hi_]
  cases a <;> simp [Addr.add]
theorem r_cut {t e : TypeId} {x : Operand} {lo hi mx : Option Operand} {b q qq : Nat} {len cap lw hh m by_ : Nat} {z : Value} {sz : Nat} (ho : o.op = .slice t x lo hi mx) (ht : P.underlying t = some (.slice e)) (hi_ : TI P e z sz by_) (hx : Ev n l x (.slice (some ⟨b, q, none⟩) len cap))
    (hlo : Cb n l lo 0 lw) (hhi : Cb n l hi len hh) (hmx : Cb n l mx cap m) (h1 : lw ≤ hh) (h2 : hh ≤ m) (h3 : m ≤ cap) (hlt : lw < m) (hq : q + lw * sz = qq) (hmh : mx.isSome = true → hi.isSome = true := by simp) : Rn P o n l C (.slice (some ⟨b, qq, none⟩) (hh - lw) (m - lw)) := by
  intro G D w _; unfold execOp; rw [ho]; subst hq
  have hb := run_bounds (P := P) (G := G) (D := D) (w := w) hlo hhi hmx hmh h1 h2 h3
  have hne : ¬ m = lw := by omega
  simp only [hx G D]
  simp [Instr.sliceAt, Instr.slice, run_underlying ht, hb, run_sizeOf hi_, hne, add_none]
end Go.Proofs.Ytdmiklegahdafaa.K
