/-
  The engine, part 1: the operations that leave the world as it is. Generic in the program. No condition.
-/
import Derived.Test.YtjggdacfdgnkcaaE0
import Derived.Laws.Cells
import Derived.Laws.BitsLemmas
import Derived.Laws.Bits64
import Derived.Lib.SliceRun
import Derived.IntWalk
import Derived.Shelf.Abstract
namespace Go.Proofs.Ytjggdacfdgnkcaa
open Go

theorem wrap_i64 {n : Int} (h0 : -9223372036854775808 ≤ n) (h : n ≤ 9223372036854775807) : IntKind.i64.wrap n = n := IntWalk.i64_in n ⟨h0, h⟩
theorem wrap_u64 {n : Int} (h0 : 0 ≤ n) (h : n ≤ 18446744073709551615) : IntKind.u64.wrap n = n := IntWalk.u64_in n ⟨h0, h⟩
theorem wrap_u32 {n : Int} (h0 : 0 ≤ n) (h : n ≤ 4294967295) : IntKind.u32.wrap n = n := IntWalk.u32_in n ⟨h0, h⟩
theorem wrap_u8 {n : Int} (h0 : 0 ≤ n) (h : n ≤ 255) : IntKind.u8.wrap n = n := IntWalk.u8_in n ⟨h0, h⟩
theorem wrap_i64q {x y : Int} (h0 : 0 ≤ x) (h1 : x ≤ 9223372036854775807) (h2 : 1 ≤ y) : IntKind.i64.wrap (x.tdiv y) = x / y := IntWalk.i64_quo x y ⟨h0, h1, h2⟩
theorem wrap_u64q {x y : Int} (h0 : 0 ≤ x) (h1 : x ≤ 18446744073709551615) (h2 : 1 ≤ y) : IntKind.u64.wrap (x.tdiv y) = x / y := IntWalk.u64_quo x y ⟨h0, h1, h2⟩
theorem rem_pos {x y : Int} (h : 0 ≤ x) : x.tmod y = x % y := IntWalk.rem_in x y h
theorem fdiv_pow (i : Int) (n : Nat) : i.fdiv (2 ^ n) = i / 2 ^ n := Int.fdiv_eq_ediv_of_nonneg _ (Int.le_of_lt (Int.pow_pos (by decide)))

/-- Is a type one of several cells? -/
def aggD : TypeDesc → Bool
  | .struct _ | .array _ _ => true
  | _ => false
theorem run_isAggD {P : Program} {t : TypeId} {s : TypeDesc} {b : Bool} (h : P.underlying t = some s) (hd : aggD s = b) (w : World) : (isAgg t).run P w = .ok b w := by
  subst hd
  cases s <;> simp [isAgg, run_underlying h, aggD]

theorem wraps_u64 (n : Int) (h0 : 0 ≤ n) (h1 : n < 2 ^ 64) : IntKind.u64.wrap n = n := wrap_u64 h0 (by omega)
theorem and32 {x : Int} (h0 : 0 ≤ x) (h1 : x ≤ 18446744073709551615) : bits .and .u64 x 4294967295 = x % 4294967296 := bits_mask .u64 64 (by decide) wraps_u64 32 (by decide) x h0 (by omega)
/-- 'a << 32 | b' -/
theorem or32 {x y : Int} (hx0 : 0 ≤ x) (hx : x % 4294967296 = 0) (hx1 : x ≤ 18446744073709551615) (hy0 : 0 ≤ y) (hy : y < 4294967296) : bits .or .u64 x y = x + y := bits_join .u64 64 (by decide) wraps_u64 32 x y hx0 hx (by omega) hy0 hy (by omega)
section
variable {P : Program} {ρ : Env} {w : World} {d : Option Nat} {ty : TypeId} {pos : String} {aft : Array Edge} {g : Option (Nat × Bool)} {x y : Operand} {T T' : TypeId} {k k' : IntKind} {i j : Int} {v : Value} {n : Int} {b : Bool}

theorem P_move (hx : ev ρ x = v) : Pure_ P ⟨d, .move x, ty, pos, aft, g⟩ ρ w v := ⟨(by intro c h; cases h), by subst hx; rfl⟩
theorem P_assign (hx : ev ρ x = v) : Pure_ P ⟨d, .assign x, ty, pos, aft, g⟩ ρ w v := ⟨(by intro c h; cases h), by subst hx; rfl⟩
theorem P_pick_t {z : Operand} (hx : ev ρ x = .bool true) (hy : ev ρ y = v) : Pure_ P ⟨d, .pick x y z, ty, pos, aft, g⟩ ρ w v :=
  ⟨(by intro c h; cases h), by subst hy; simp [execOp, hx, asBool]⟩
theorem P_pick_f {z : Operand} (hx : ev ρ x = .bool false) (hz : ev ρ z = v) : Pure_ P ⟨d, .pick x y z, ty, pos, aft, g⟩ ρ w v :=
  ⟨(by intro c h; cases h), by subst hz; simp [execOp, hx, asBool]⟩
theorem P_bin {op : BinOp} (hx : ev ρ x = .int k i) (hy : ev ρ y = .int k' j) (h : (binOp op T (.int k i) (.int k' j)).run P w = .ok v w) : Pure_ P ⟨d, .binOp op T x y T', ty, pos, aft, g⟩ ρ w v := by
  refine ⟨(by intro c h; cases h), ?_⟩
  have h1 : (eqGuard op T x y (.int k i) (.int k' j)).run P w = .ok () w := by
    cases op <;> rfl
  simp [execOp, hx, hy, h1, h]
theorem P_add (hx : ev ρ x = .int k i) (hy : ev ρ y = .int k j) (hw : k.wrap (i + j) = n) : Pure_ P ⟨d, .binOp .add T x y T', ty, pos, aft, g⟩ ρ w (.int k n) :=
  P_bin hx hy (by subst hw; simp [binOp, Op.intArith])
theorem P_sub (hx : ev ρ x = .int k i) (hy : ev ρ y = .int k j) (hw : k.wrap (i - j) = n) : Pure_ P ⟨d, .binOp .sub T x y T', ty, pos, aft, g⟩ ρ w (.int k n) :=
  P_bin hx hy (by subst hw; simp [binOp, Op.intArith])
theorem P_mul (hx : ev ρ x = .int k i) (hy : ev ρ y = .int k j) (hw : k.wrap (i * j) = n) : Pure_ P ⟨d, .binOp .mul T x y T', ty, pos, aft, g⟩ ρ w (.int k n) :=
  P_bin hx hy (by subst hw; simp [binOp, Op.intArith])
theorem P_quo (hx : ev ρ x = .int k i) (hy : ev ρ y = .int k j) (hj : j ≠ 0) (hw : k.wrap (i.tdiv j) = n) : Pure_ P ⟨d, .binOp .quo T x y T', ty, pos, aft, g⟩ ρ w (.int k n) :=
  P_bin hx hy (by subst hw; simp [binOp, Op.intDiv, hj])
theorem P_rem (hx : ev ρ x = .int k i) (hy : ev ρ y = .int k j) (hj : j ≠ 0) (hw : i.tmod j = n) : Pure_ P ⟨d, .binOp .rem T x y T', ty, pos, aft, g⟩ ρ w (.int k n) :=
  P_bin hx hy (by subst hw; simp [binOp, Op.intDiv, hj])
theorem P_and (hx : ev ρ x = .int k i) (hy : ev ρ y = .int k j) (hw : bits .and k i j = n) : Pure_ P ⟨d, .binOp .and T x y T', ty, pos, aft, g⟩ ρ w (.int k n) :=
  P_bin hx hy (by subst hw; simp [binOp, Op.intBits, bits])
theorem P_or (hx : ev ρ x = .int k i) (hy : ev ρ y = .int k j) (hw : bits .or k i j = n) : Pure_ P ⟨d, .binOp .or T x y T', ty, pos, aft, g⟩ ρ w (.int k n) :=
  P_bin hx hy (by subst hw; simp [binOp, Op.intBits, bits])
theorem P_xor (hx : ev ρ x = .int k i) (hy : ev ρ y = .int k j) (hw : bits .xor k i j = n) : Pure_ P ⟨d, .binOp .xor T x y T', ty, pos, aft, g⟩ ρ w (.int k n) :=
  P_bin hx hy (by subst hw; simp [binOp, Op.intBits, bits])
theorem P_shl (hx : ev ρ x = .int k i) (hy : ev ρ y = .int k' j) (hj : 0 ≤ j) (hw : k.wrap (i * 2 ^ min j.toNat k.bits) = n) : Pure_ P ⟨d, .binOp .shl T x y T', ty, pos, aft, g⟩ ρ w (.int k n) :=
  P_bin hx hy (by subst hw; simp [binOp, Op.shift, Int.not_lt.2 hj])
theorem P_shr (hx : ev ρ x = .int k i) (hy : ev ρ y = .int k' j) (hj : 0 ≤ j) (hw : i / 2 ^ min j.toNat k.bits = n) : Pure_ P ⟨d, .binOp .shr T x y T', ty, pos, aft, g⟩ ρ w (.int k n) :=
  P_bin hx hy (by subst hw; rw [← fdiv_pow]; simp [binOp, Op.shift, Int.not_lt.2 hj])
theorem P_eql (hx : ev ρ x = .int k i) (hy : ev ρ y = .int k j) (hb : decide (i = j) = b) : Pure_ P ⟨d, .binOp .eql T x y T', ty, pos, aft, g⟩ ρ w (.bool b) :=
  P_bin hx hy (by subst hb; simp only [binOp, Op.intCmp, ne_eq, not_true, if_false, Sem.run_pure]; rfl)
theorem P_neq (hx : ev ρ x = .int k i) (hy : ev ρ y = .int k j) (hb : decide (i ≠ j) = b) : Pure_ P ⟨d, .binOp .neq T x y T', ty, pos, aft, g⟩ ρ w (.bool b) :=
  P_bin hx hy (by
    subst hb
    simp only [binOp, Op.intCmp, ne_eq, not_true, if_false, Sem.run_pure]
    congr 2
    by_cases h : i = j <;> simp [h])
theorem P_lss (hx : ev ρ x = .int k i) (hy : ev ρ y = .int k j) (hb : decide (i < j) = b) : Pure_ P ⟨d, .binOp .lss T x y T', ty, pos, aft, g⟩ ρ w (.bool b) :=
  P_bin hx hy (by subst hb; simp [binOp, Op.intCmp])
theorem P_leq (hx : ev ρ x = .int k i) (hy : ev ρ y = .int k j) (hb : decide (i ≤ j) = b) : Pure_ P ⟨d, .binOp .leq T x y T', ty, pos, aft, g⟩ ρ w (.bool b) :=
  P_bin hx hy (by subst hb; simp [binOp, Op.intCmp])
theorem P_gtr (hx : ev ρ x = .int k i) (hy : ev ρ y = .int k j) (hb : decide (j < i) = b) : Pure_ P ⟨d, .binOp .gtr T x y T', ty, pos, aft, g⟩ ρ w (.bool b) :=
  P_bin hx hy (by subst hb; simp [binOp, Op.intCmp])
theorem P_geq (hx : ev ρ x = .int k i) (hy : ev ρ y = .int k j) (hb : decide (j ≤ i) = b) : Pure_ P ⟨d, .binOp .geq T x y T', ty, pos, aft, g⟩ ρ w (.bool b) :=
  P_bin hx hy (by subst hb; simp [binOp, Op.intCmp])
theorem P_eqnil {A : Option Addr} {m c m' c' : Nat} {e : TypeId} (hu : P.underlying T = some (.slice e)) (hx : ev ρ x = .slice A m c) (hy : ev ρ y = .slice none m' c') (hb : A.isNone = b) : Pure_ P ⟨d, .binOp .eql T x y T', ty, pos, aft, g⟩ ρ w (.bool b) := by
  refine ⟨(by intro c h; cases h), ?_⟩
  subst hb
  have h1 : (eqGuard .eql T x y (.slice A m c) (.slice none m' c')).run P w = .ok () w := rfl
  have h2 := Lib.run_eql_slice_nil (P := P) w T e A m c m' c' hu
  simp [execOp, hx, hy, h1, h2]
theorem P_not (hx : ev ρ x = .bool b) : Pure_ P ⟨d, .unOp .not T x, ty, pos, aft, g⟩ ρ w (.bool (!b)) :=
  ⟨(by intro c h; cases h), by simp [execOp, hx, Op.unary]⟩
theorem P_neg (hx : ev ρ x = .int k i) (hw : k.wrap (0 - i) = n) : Pure_ P ⟨d, .unOp .neg T x, ty, pos, aft, g⟩ ρ w (.int k n) :=
  ⟨(by intro c h; cases h), by subst hw; simp [execOp, hx, Op.unary, Op.intArith]⟩
theorem P_com (hx : ev ρ x = .int k i) (hw : bits .xor k (if k.signed then -1 else k.max) i = n) : Pure_ P ⟨d, .unOp .xor T x, ty, pos, aft, g⟩ ρ w (.int k n) :=
  ⟨(by intro c h; cases h), by subst hw; simp [execOp, hx, Op.unary, Op.intBits, bits]⟩
theorem P_conv {s : TypeDesc} (hs : P.underlying T = some s) (hu : P.underlying T' = some (.int k)) (hx : ev ρ x = .int k' i) (hw : k.wrap i = n) : Pure_ P ⟨d, .convert T T' x, ty, pos, aft, g⟩ ρ w (.int k n) := by
  refine ⟨(by intro c h; cases h), ?_⟩
  subst hw
  cases s <;> simp [execOp, hx, convert, run_underlying hs, run_underlying hu, Conv.intToInt]
theorem P_ext {vs : Array Value} {m : Nat} (hx : ev ρ x = .tuple vs) (h : vs[m]? = some v) : Pure_ P ⟨d, .extract x m, ty, pos, aft, g⟩ ρ w v :=
  ⟨(by intro c h; cases h), by simp [execOp, hx, Instr.extract, h]⟩
theorem P_mkf {f : Nat} {xs : Array Operand} {caps : Array Value} (hc : xs.map (ev ρ) = caps) : Pure_ P ⟨d, .makeFunc (.func f) #[] xs, ty, pos, aft, g⟩ ρ w (.func (.func f) #[] caps) :=
  ⟨(by intro c h; cases h), by subst hc; simp [execOp, Instr.makeFunc]⟩
theorem P_mkf0 {f : Nat} : Pure_ P ⟨d, .makeFunc (.func f) #[] #[], ty, pos, aft, g⟩ ρ w (.func (.func f) #[] #[]) := P_mkf (by simp)
theorem P_mkf1 {f : Nat} {v1 : Value} (h1 : ev ρ x = v1) : Pure_ P ⟨d, .makeFunc (.func f) #[] #[x], ty, pos, aft, g⟩ ρ w (.func (.func f) #[] #[v1]) := P_mkf (by simp [h1])
theorem P_mkf2 {f : Nat} {v1 v2 : Value} (h1 : ev ρ x = v1) (h2 : ev ρ y = v2) : Pure_ P ⟨d, .makeFunc (.func f) #[] #[x, y], ty, pos, aft, g⟩ ρ w (.func (.func f) #[] #[v1, v2]) := P_mkf (by simp [h1, h2])
theorem P_mkf3 {f : Nat} {x3 : Operand} {v1 v2 v3 : Value} (h1 : ev ρ x = v1) (h2 : ev ρ y = v2) (h3 : ev ρ x3 = v3) : Pure_ P ⟨d, .makeFunc (.func f) #[] #[x, y, x3], ty, pos, aft, g⟩ ρ w (.func (.func f) #[] #[v1, v2, v3]) := P_mkf (by simp [h1, h2, h3])
theorem P_mkf4 {f : Nat} {x3 x4 : Operand} {v1 v2 v3 v4 : Value} (h1 : ev ρ x = v1) (h2 : ev ρ y = v2) (h3 : ev ρ x3 = v3) (h4 : ev ρ x4 = v4) : Pure_ P ⟨d, .makeFunc (.func f) #[] #[x, y, x3, x4], ty, pos, aft, g⟩ ρ w (.func (.func f) #[] #[v1, v2, v3, v4]) := P_mkf (by simp [h1, h2, h3, h4])
theorem P_len {A : Option Addr} {m c : Nat} {e : TypeId} (hu : P.underlying T = some (.slice e)) (hx : ev ρ x = .slice A m c) : Pure_ P ⟨d, .call ⟨.builtin .len, #[x], #[T]⟩, ty, pos, aft, g⟩ ρ w (.int .i64 m) :=
  ⟨(by intro c h; cases h), by simp [execOp, resolve, invoke, builtin, Builtin.len_, hx, run_underlying hu, goInt]⟩
theorem P_lens {s : ByteArray} (hu : P.underlying T = some .string) (hx : ev ρ x = .string s) : Pure_ P ⟨d, .call ⟨.builtin .len, #[x], #[T]⟩, ty, pos, aft, g⟩ ρ w (.int .i64 s.size) :=
  ⟨(by intro c h; cases h), by simp [execOp, resolve, invoke, builtin, Builtin.len_, hx, run_underlying hu, goInt]⟩
theorem P_cap {A : Option Addr} {m c : Nat} {e : TypeId} (hu : P.underlying T = some (.slice e)) (hx : ev ρ x = .slice A m c) : Pure_ P ⟨d, .call ⟨.builtin .cap, #[x], #[T]⟩, ty, pos, aft, g⟩ ρ w (.int .i64 c) :=
  ⟨(by intro c h; cases h), by simp [execOp, resolve, invoke, builtin, Builtin.cap_, hx, run_underlying hu, goInt]⟩
theorem P_max {ts : Array TypeId} (hx : ev ρ x = .int k i) (hy : ev ρ y = .int k j) (hn : (if j > i then j else i) = n) : Pure_ P ⟨d, .call ⟨.builtin .max, #[x, y], ts⟩, ty, pos, aft, g⟩ ρ w (.int k n) :=
  ⟨(by intro c h; cases h), by subst hn; simp [execOp, resolve, invoke, builtin, Builtin.max_, Builtin.max2, hx, hy]⟩
theorem P_min {ts : Array TypeId} (hx : ev ρ x = .int k i) (hy : ev ρ y = .int k j) (hn : (if j < i then j else i) = n) : Pure_ P ⟨d, .call ⟨.builtin .min, #[x, y], ts⟩, ty, pos, aft, g⟩ ρ w (.int k n) :=
  ⟨(by intro c h; cases h), by subst hn; simp [execOp, resolve, invoke, builtin, Builtin.min_, Builtin.min2, hx, hy]⟩

/-- Index of a slice: the address. -/
theorem P_idx {A : Option Addr} {m c : Nat} {e sz : Nat} (hu : P.underlying T = some (.slice e)) (hi : (P.info? e).map (·.size) = some sz) (hx : ev ρ x = .slice A m c) (hy : ev ρ y = .int k j) (hA : 0 ≤ j → j < (m : Int) → ∃ ad, A = some ad) (h0 : 0 ≤ j) (h1 : j < m) :
    Pure_ P ⟨d, .indexAddr T x y, ty, pos, aft, g⟩ ρ w (.pointer (A.map fun ad => ad.add (j.toNat * sz))) := by
  obtain ⟨ad, rfl⟩ := hA h0 h1
  obtain ⟨i0, hi0, rfl⟩ := Option.map_eq_some_iff.1 hi
  refine ⟨(by intro c h; cases h), ?_⟩
  simp [execOp, Instr.indexAt, hx, hy, asIntOf, run_underlying hu, h0, h1, sizeOf, typeInfo, hi0]
theorem P_idx1 {A : Option Addr} {m c : Nat} {e : Nat} (hu : P.underlying T = some (.slice e)) (hi : (P.info? e).map (·.size) = some 1) (hx : ev ρ x = .slice A m c) (hy : ev ρ y = .int k j) (hA : 0 ≤ j → j < (m : Int) → ∃ ad, A = some ad) (h0 : 0 ≤ j) (h1 : j < m) :
    Pure_ P ⟨d, .indexAddr T x y, ty, pos, aft, g⟩ ρ w (.pointer (A.map fun ad => ad.add j.toNat)) := by
  have h := P_idx (d := d) (ty := ty) (pos := pos) (aft := aft) (g := g) (w := w) hu hi hx hy hA h0 h1
  simpa using h
/-- An element of an array by value. -/
theorem P_idxs {s : ByteArray} (hu : P.underlying T = some .string) (hx : ev ρ x = .string s) (hy : ev ρ y = .int k j) (h0 : 0 ≤ j) {bt : UInt8} (h : s[j.toNat]? = some bt) :
    Pure_ P ⟨d, .index T x y, ty, pos, aft, g⟩ ρ w (.int .u8 bt.toNat) := by
  refine ⟨(by intro c h; cases h), ?_⟩
  simp [execOp, Instr.index, hx, hy, asIntOf, run_underlying hu, h0, h]
theorem P_load {A : Option Addr} {s : TypeDesc} (hu : P.underlying T = some s) (hs : aggD s = false) (hx : ev ρ x = .pointer A) (hc : ∃ ad, A = some ad ∧ w.cell? ad = some v) :
    Pure_ P ⟨d, .load T x, ty, pos, aft, g⟩ ρ w v := by
  obtain ⟨ad, rfl, hc⟩ := hc
  refine ⟨(by intro c h; cases h), ?_⟩
  simp [execOp, Instr.loadAt, Instr.sureAddr, loadVar, hx, hc, run_isAggD hu hs]
/-- A struct's load. -/
theorem P_loadn {A : Option Addr} {s : TypeDesc} {cs : List Value} (hu : P.underlying T = some s) (hs : aggD s = true) (hi : (P.info? T).map (·.size) = some cs.length) (hx : ev ρ x = .pointer A)
    (hc : ∃ ad, A = some ad ∧ ∀ m u, cs[m]? = some u → w.cell? (ad.add m) = some u) :
    Pure_ P ⟨d, .load T x, ty, pos, aft, g⟩ ρ w (.agg cs.toArray) := by
  obtain ⟨ad, rfl, hc⟩ := hc
  obtain ⟨i0, hi0, hi1⟩ := Option.map_eq_some_iff.1 hi
  refine ⟨(by intro c h; cases h), ?_⟩
  have h1 := run_isAggD hu hs w
  have h2 := run_loadCells_list (P := P) (w := w) ad cs hc
  simp [execOp, Instr.loadAt, Instr.sureAddr, loadVar, hx, h1, sizeOf, typeInfo, hi0, hi1, h2]
theorem P_fld {fs : Array Field} {f : Field} {m sz : Nat} {A : Option Addr} (hu : P.underlying T = some (.struct fs)) (hf : fs[m]? = some f) (hi : (P.info? f.type).map (·.size) = some (sz + 1)) (hx : ev ρ x = .pointer A) (hA : ∃ ad, A = some ad) :
    Pure_ P ⟨d, .fieldAddr T x m, ty, pos, aft, g⟩ ρ w (.pointer (A.map fun ad => ad.add f.offset)) := by
  obtain ⟨ad, rfl⟩ := hA
  obtain ⟨i0, hi0, hi1⟩ := Option.map_eq_some_iff.1 hi
  refine ⟨(by intro c h; cases h), ?_⟩
  simp [execOp, Instr.fieldAt, Instr.sureAddr, hx, run_underlying hu, hf, fieldPlace, sizeOf, typeInfo, hi0, hi1]
theorem P_nilck {a : Addr} (hx : ev ρ x = .pointer (some a)) : Pure_ P ⟨d, .nilCheck x, ty, pos, aft, g⟩ ρ w (.pointer (some a)) :=
  ⟨(by intro c h; cases h), by simp [execOp, hx]⟩
theorem map_add_zero (A : Option Addr) : A.map (fun ad => ad.add 0) = A := by cases A <;> rfl
/-- 'xs[:h]' -/
theorem P_slhi {A : Option Addr} {m c : Nat} {e sz : Nat} (hu : P.underlying T = some (.slice e)) (hi : (P.info? e).map (·.size) = some sz) (hx : ev ρ x = .slice A m c) (hy : ev ρ y = .int k j) (h0 : 0 ≤ j) (h1 : j ≤ c) :
    Pure_ P ⟨d, .slice T x none (some y) none, ty, pos, aft, g⟩ ρ w (.slice A j.toNat c) := by
  obtain ⟨i0, hi0, rfl⟩ := Option.map_eq_some_iff.1 hi
  refine ⟨(by intro c h; cases h), ?_⟩
  simp [execOp, Instr.sliceAt, Instr.slice, Instr.sliceBounds, Instr.sliceBound, hx, hy, asIntOf, run_underlying hu, h0, h1, sizeOf, typeInfo, hi0]
  exact fun _ => map_add_zero A
/-- 'xs[l:]' -/
theorem P_sllo {A : Option Addr} {m c : Nat} {e sz : Nat} (hu : P.underlying T = some (.slice e)) (hi : (P.info? e).map (·.size) = some sz) (hx : ev ρ x = .slice A m c) (hy : ev ρ y = .int k j) (h0 : 0 ≤ j) (h1 : j ≤ m) :
    Pure_ P ⟨d, .slice T x (some y) none none, ty, pos, aft, g⟩ ρ w (.slice (if c = j.toNat then A else A.map (fun ad => ad.add (j.toNat * sz))) (m - j.toNat) (c - j.toNat)) := by
  obtain ⟨i0, hi0, rfl⟩ := Option.map_eq_some_iff.1 hi
  refine ⟨(by intro c h; cases h), ?_⟩
  simp [execOp, Instr.sliceAt, Instr.slice, Instr.sliceBounds, Instr.sliceBound, hx, hy, asIntOf, run_underlying hu, h0, h1, sizeOf, typeInfo, hi0]
/-- 'xs[l:h]' -/
theorem P_sllohi {z : Operand} {k2 : IntKind} {i2 : Int} {A : Option Addr} {m c : Nat} {e sz : Nat} (hu : P.underlying T = some (.slice e)) (hi : (P.info? e).map (·.size) = some sz) (hx : ev ρ x = .slice A m c) (hy : ev ρ y = .int k j) (hz : ev ρ z = .int k2 i2) (h0 : 0 ≤ j) (h1 : j ≤ i2) (h2 : i2 ≤ c) :
    Pure_ P ⟨d, .slice T x (some y) (some z) none, ty, pos, aft, g⟩ ρ w (.slice (if c = j.toNat then A else A.map (fun ad => ad.add (j.toNat * sz))) (i2.toNat - j.toNat) (c - j.toNat)) := by
  obtain ⟨i0, hi0, rfl⟩ := Option.map_eq_some_iff.1 hi
  refine ⟨(by intro c h; cases h), ?_⟩
  have h3 : 0 ≤ i2 := Int.le_trans h0 h1
  simp [execOp, Instr.sliceAt, Instr.slice, Instr.sliceBounds, Instr.sliceBound, hx, hy, hz, asIntOf, run_underlying hu, h0, h2, h3, sizeOf, typeInfo, hi0]
  exact fun hlt => absurd hlt (by omega)
end
end Go.Proofs.Ytjggdacfdgnkcaa
