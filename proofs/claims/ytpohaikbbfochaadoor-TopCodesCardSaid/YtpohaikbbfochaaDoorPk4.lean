/-
  Texts joined (LawDA, Merge, Tz, TzA, UnaB, RiceB, RefA, RefB).
-/
import Derived.Test.YtpohaikbbfochaaDoorRows
import Derived.Test.YtpohaikbbfochaaDoorPk3
/-
  The examples of chapter 8 (two levels).
-/
namespace Go.Proofs.YtpohaikbbfochaaDoor
open Go.RowKit Cad Cad.Bit Cad.Code
set_option linter.unusedVariables false
set_option linter.unusedSimpArgs false

theorem dlearn_c {p0 p1 q0 q1 v u0 u1 v0 v1 : Nat} (w : World) (hd : Dual.Ok ⟨p0, p1, q0, q1⟩) (hv : v < 4294967296) (he : learn ⟨p0, p1, q0, q1⟩ v = ⟨u0, u1, v0, v1⟩) :
    Calls Tryd.prog 33 #[.agg #[.int .i64 (p0 : Int), .int .i64 (p1 : Int), .int .u64 (q0 : Int), .int .u64 (q1 : Int)], .int .u32 (v : Int)] w fun e w' => e = .returned (.tuple #[.agg #[.int .i64 (u0 : Int), .int .i64 (u1 : Int), .int .u64 (v0 : Int), .int .u64 (v1 : Int)], .int .i64 0]) ∧ Below w.heap.size w w' := by
  refine (dLearn_ok p0 p1 q0 q1 v w hd hv).mono ?_
  rintro e w' ⟨a0, a1, b0, b1, rfl, HA, hb⟩
  have h := HA.out.trans he
  injection h with h1 h2 h3 h4
  exact ⟨by rw [h1, h2, h3, h4], hb⟩
theorem dlen_c {p0 p1 q0 q1 v y : Nat} (w : World) (hd : Dual.Ok ⟨p0, p1, q0, q1⟩) (hv : v < 4294967296) (he : lenD ⟨p0, p1, q0, q1⟩ v = y) :
    Calls Tryd.prog 32 #[.agg #[.int .i64 (p0 : Int), .int .i64 (p1 : Int), .int .u64 (q0 : Int), .int .u64 (q1 : Int)], .int .u32 (v : Int)] w fun e w' => e = .returned (.tuple #[.int .i64 (y : Int), .int .i64 0]) ∧ Below w.heap.size w w' := by
  refine (dLength_ok p0 p1 q0 q1 v w hd hv).mono ?_
  rintro e w' ⟨z, rfl, HZ, hb⟩
  exact ⟨by rw [HZ.out, he], hb⟩
theorem dwrite_c (A : Option Addr) (m c : Nat) (bs l : List Bool) {p0 p1 q0 q1 v u0 u1 v0 v1 : Nat} (w : World) (ha : Row .u8 w A m (pack bs)) (hc : m ≤ c ∧ c ≤ 9223372036854775807) (hl : bs.length ≤ 330000) (hd : Dual.Ok ⟨p0, p1, q0, q1⟩) (hv : v < 4294967296) (er : Int) (he : dwR bs ⟨p0, p1, q0, q1⟩ v = (l, ⟨u0, u1, v0, v1⟩, er)) :
    Calls Tryd.prog 47 #[.agg #[.slice A m c, .int .i64 (bs.length : Nat)], .agg #[.int .i64 (p0 : Int), .int .i64 (p1 : Int), .int .u64 (q0 : Int), .int .u64 (q1 : Int)], .int .u32 (v : Int)] w fun e w' => ∃ A n c xs, e = .returned (.tuple #[.agg #[.slice A n c, .int .i64 ((xs.length : Nat) : Int)], .agg #[.int .i64 (u0 : Int), .int .i64 (u1 : Int), .int .u64 (v0 : Int), .int .u64 (v1 : Int)], .int .i64 er]) ∧ (n ≤ c ∧ c ≤ 9223372036854775807) ∧ RowIn .u8 w' w.heap.size w'.heap.size A n (pack xs) ∧ Hid (xs = l) ∧ Below w.heap.size w w' := by
  have h := dWrite_ret A m c bs p0 p1 q0 q1 v w ha hc hl hd hv
  rw [he] at h
  refine h.mono ?_
  rintro e w' ⟨B, n, d, xs, a0, a1, b0, b1, rfl, hc, hr, HX, HD, hb⟩
  have h := HD.out
  injection h with h1 h2 h3 h4
  exact ⟨B, n, d, xs, by rw [h1, h2, h3, h4], hc, hr, HX, hb⟩
end Go.Proofs.YtpohaikbbfochaaDoor

/-
  Ways of a region that differ in addresses alone, led to one goal.
-/
namespace Go.Proofs.YtpohaikbbfochaaDoor
open Go.RowKit Cad Cad.Bit
set_option linter.unusedVariables false

theorem RowIn.pick2 {k : IntKind} {w : World} {lo hi : Nat} {A : Option Addr} {n : Nat} {xs : List Int} (h : RowIn k w lo hi A n xs) : ∃ lo', lo ≤ lo' ∧ lo' ≤ lo ∧ RowIn k w lo' hi A n xs := ⟨lo, Nat.le_refl _, Nat.le_refl _, h⟩
theorem Blk.new1 {w : World} {o1 o : Obj} {t : TypeId} {l : List Value} (ho : o = .cells l.toArray t) : Blk ((w.alloc o1).alloc o) (w.heap.size + 1) t l := Blk.new' (by simp) ho
theorem Blk.new0 {w : World} {o1 o : Obj} {t : TypeId} {l : List Value} (ho : o = .cells l.toArray t) : Blk ((w.alloc o).alloc o1) w.heap.size t l := (Blk.new' rfl ho).alloc _
theorem Blk.far2 {w : World} {g b : Nat} {t : TypeId} {l : List Value} {u0 u1 : Value} (h : Blk w g t l) (hp : g ≠ b) : Blk ((w.setCell ⟨b, 0, none⟩ u0).setCell ⟨b, 1, none⟩ u1) g t l := (Blk.far' (Blk.far' h hp u0) hp u1)
theorem RowIn.far2 {w : World} {k : IntKind} {lo hi b n : Nat} {A : Option Addr} {xs : List Int} {u0 u1 : Value} (h : RowIn k w lo hi A n xs) (hp : b < lo ∨ hi ≤ b) : RowIn k ((w.setCell ⟨b, 0, none⟩ u0).setCell ⟨b, 1, none⟩ u1) lo hi A n xs := (RowIn.far' (RowIn.far' h hp u0) hp u1)
theorem Below.far2 {w a : World} {B b : Nat} {u0 u1 : Value} (h : Below B a w) (hp : B ≤ b) : Below B a ((w.setCell ⟨b, 0, none⟩ u0).setCell ⟨b, 1, none⟩ u1) := (Below.far' (Below.far' h hp u0) hp u1)
theorem Blk.far4 {w : World} {g b : Nat} {t : TypeId} {l : List Value} {u0 u1 u2 u3 : Value} (h : Blk w g t l) (hp : g ≠ b) : Blk ((((w.setCell ⟨b, 0, none⟩ u0).setCell ⟨b, 1, none⟩ u1).setCell ⟨b, 2, none⟩ u2).setCell ⟨b, 3, none⟩ u3) g t l := (Blk.far' (Blk.far' (Blk.far' (Blk.far' h hp u0) hp u1) hp u2) hp u3)
theorem RowIn.far4 {w : World} {k : IntKind} {lo hi b n : Nat} {A : Option Addr} {xs : List Int} {u0 u1 u2 u3 : Value} (h : RowIn k w lo hi A n xs) (hp : b < lo ∨ hi ≤ b) : RowIn k ((((w.setCell ⟨b, 0, none⟩ u0).setCell ⟨b, 1, none⟩ u1).setCell ⟨b, 2, none⟩ u2).setCell ⟨b, 3, none⟩ u3) lo hi A n xs := (RowIn.far' (RowIn.far' (RowIn.far' (RowIn.far' h hp u0) hp u1) hp u2) hp u3)
theorem Below.far4 {w a : World} {B b : Nat} {u0 u1 u2 u3 : Value} (h : Below B a w) (hp : B ≤ b) : Below B a ((((w.setCell ⟨b, 0, none⟩ u0).setCell ⟨b, 1, none⟩ u1).setCell ⟨b, 2, none⟩ u2).setCell ⟨b, 3, none⟩ u3) := (Below.far' (Below.far' (Below.far' (Below.far' h hp u0) hp u1) hp u2) hp u3)
theorem Blk.set2 {w : World} {g : Nat} {t : TypeId} {a0 a1 u0 u1 : Value} (h : Blk w g t [a0, a1]) : Blk ((w.setCell ⟨g, 0, none⟩ u0).setCell ⟨g, 1, none⟩ u1) g t [u0, u1] := Blk.set' (l0 := [u0, a1]) (Blk.set' (l0 := [a0, a1]) h rfl) rfl
theorem Blk.set4 {w : World} {g : Nat} {t : TypeId} {a0 a1 a2 a3 u0 u1 u2 u3 : Value} (h : Blk w g t [a0, a1, a2, a3]) : Blk ((((w.setCell ⟨g, 0, none⟩ u0).setCell ⟨g, 1, none⟩ u1).setCell ⟨g, 2, none⟩ u2).setCell ⟨g, 3, none⟩ u3) g t [u0, u1, u2, u3] := Blk.set' (l0 := [u0, u1, u2, a3]) (Blk.set' (l0 := [u0, u1, a2, a3]) (Blk.set' (l0 := [u0, a1, a2, a3]) (Blk.set' (l0 := [a0, a1, a2, a3]) h rfl) rfl) rfl) rfl
theorem gen_world {K : Exit → Act → World → Prop} {e : Exit} {a : Act} {W : World} (h : ∀ wz, wz = W → K e a wz) : K e a W := h W rfl
section
universe u1 u2 u3 u4 u5 u6 u7 u8 u9 u10 u11 u12 u13
theorem merge2 {A1 : Sort u1} {A2 : Sort u2} (F : A1 → A2 → Prop) {P : A1 → A2 → Prop} {G : Prop} (main : (∀ x1 x2, F x1 x2 → P x1 x2) → G) (k : ∀ x1 x2, F x1 x2 → P x1 x2) : G := main k
theorem merge3 {A1 : Sort u1} {A2 : Sort u2} {A3 : Sort u3} (F : A1 → A2 → A3 → Prop) {P : A1 → A2 → A3 → Prop} {G : Prop} (main : (∀ x1 x2 x3, F x1 x2 x3 → P x1 x2 x3) → G) (k : ∀ x1 x2 x3, F x1 x2 x3 → P x1 x2 x3) : G := main k
theorem merge4 {A1 : Sort u1} {A2 : Sort u2} {A3 : Sort u3} {A4 : Sort u4} (F : A1 → A2 → A3 → A4 → Prop) {P : A1 → A2 → A3 → A4 → Prop} {G : Prop} (main : (∀ x1 x2 x3 x4, F x1 x2 x3 x4 → P x1 x2 x3 x4) → G) (k : ∀ x1 x2 x3 x4, F x1 x2 x3 x4 → P x1 x2 x3 x4) : G := main k
theorem merge5 {A1 : Sort u1} {A2 : Sort u2} {A3 : Sort u3} {A4 : Sort u4} {A5 : Sort u5} (F : A1 → A2 → A3 → A4 → A5 → Prop) {P : A1 → A2 → A3 → A4 → A5 → Prop} {G : Prop} (main : (∀ x1 x2 x3 x4 x5, F x1 x2 x3 x4 x5 → P x1 x2 x3 x4 x5) → G) (k : ∀ x1 x2 x3 x4 x5, F x1 x2 x3 x4 x5 → P x1 x2 x3 x4 x5) : G := main k
theorem merge6 {A1 : Sort u1} {A2 : Sort u2} {A3 : Sort u3} {A4 : Sort u4} {A5 : Sort u5} {A6 : Sort u6} (F : A1 → A2 → A3 → A4 → A5 → A6 → Prop) {P : A1 → A2 → A3 → A4 → A5 → A6 → Prop} {G : Prop} (main : (∀ x1 x2 x3 x4 x5 x6, F x1 x2 x3 x4 x5 x6 → P x1 x2 x3 x4 x5 x6) → G) (k : ∀ x1 x2 x3 x4 x5 x6, F x1 x2 x3 x4 x5 x6 → P x1 x2 x3 x4 x5 x6) : G := main k
theorem merge7 {A1 : Sort u1} {A2 : Sort u2} {A3 : Sort u3} {A4 : Sort u4} {A5 : Sort u5} {A6 : Sort u6} {A7 : Sort u7} (F : A1 → A2 → A3 → A4 → A5 → A6 → A7 → Prop) {P : A1 → A2 → A3 → A4 → A5 → A6 → A7 → Prop} {G : Prop} (main : (∀ x1 x2 x3 x4 x5 x6 x7, F x1 x2 x3 x4 x5 x6 x7 → P x1 x2 x3 x4 x5 x6 x7) → G) (k : ∀ x1 x2 x3 x4 x5 x6 x7, F x1 x2 x3 x4 x5 x6 x7 → P x1 x2 x3 x4 x5 x6 x7) : G := main k
theorem merge8 {A1 : Sort u1} {A2 : Sort u2} {A3 : Sort u3} {A4 : Sort u4} {A5 : Sort u5} {A6 : Sort u6} {A7 : Sort u7} {A8 : Sort u8} (F : A1 → A2 → A3 → A4 → A5 → A6 → A7 → A8 → Prop) {P : A1 → A2 → A3 → A4 → A5 → A6 → A7 → A8 → Prop} {G : Prop} (main : (∀ x1 x2 x3 x4 x5 x6 x7 x8, F x1 x2 x3 x4 x5 x6 x7 x8 → P x1 x2 x3 x4 x5 x6 x7 x8) → G) (k : ∀ x1 x2 x3 x4 x5 x6 x7 x8, F x1 x2 x3 x4 x5 x6 x7 x8 → P x1 x2 x3 x4 x5 x6 x7 x8) : G := main k
theorem merge9 {A1 : Sort u1} {A2 : Sort u2} {A3 : Sort u3} {A4 : Sort u4} {A5 : Sort u5} {A6 : Sort u6} {A7 : Sort u7} {A8 : Sort u8} {A9 : Sort u9} (F : A1 → A2 → A3 → A4 → A5 → A6 → A7 → A8 → A9 → Prop) {P : A1 → A2 → A3 → A4 → A5 → A6 → A7 → A8 → A9 → Prop} {G : Prop} (main : (∀ x1 x2 x3 x4 x5 x6 x7 x8 x9, F x1 x2 x3 x4 x5 x6 x7 x8 x9 → P x1 x2 x3 x4 x5 x6 x7 x8 x9) → G) (k : ∀ x1 x2 x3 x4 x5 x6 x7 x8 x9, F x1 x2 x3 x4 x5 x6 x7 x8 x9 → P x1 x2 x3 x4 x5 x6 x7 x8 x9) : G := main k
theorem merge10 {A1 : Sort u1} {A2 : Sort u2} {A3 : Sort u3} {A4 : Sort u4} {A5 : Sort u5} {A6 : Sort u6} {A7 : Sort u7} {A8 : Sort u8} {A9 : Sort u9} {A10 : Sort u10} (F : A1 → A2 → A3 → A4 → A5 → A6 → A7 → A8 → A9 → A10 → Prop) {P : A1 → A2 → A3 → A4 → A5 → A6 → A7 → A8 → A9 → A10 → Prop} {G : Prop} (main : (∀ x1 x2 x3 x4 x5 x6 x7 x8 x9 x10, F x1 x2 x3 x4 x5 x6 x7 x8 x9 x10 → P x1 x2 x3 x4 x5 x6 x7 x8 x9 x10) → G) (k : ∀ x1 x2 x3 x4 x5 x6 x7 x8 x9 x10, F x1 x2 x3 x4 x5 x6 x7 x8 x9 x10 → P x1 x2 x3 x4 x5 x6 x7 x8 x9 x10) : G := main k
theorem merge11 {A1 : Sort u1} {A2 : Sort u2} {A3 : Sort u3} {A4 : Sort u4} {A5 : Sort u5} {A6 : Sort u6} {A7 : Sort u7} {A8 : Sort u8} {A9 : Sort u9} {A10 : Sort u10} {A11 : Sort u11} (F : A1 → A2 → A3 → A4 → A5 → A6 → A7 → A8 → A9 → A10 → A11 → Prop) {P : A1 → A2 → A3 → A4 → A5 → A6 → A7 → A8 → A9 → A10 → A11 → Prop} {G : Prop} (main : (∀ x1 x2 x3 x4 x5 x6 x7 x8 x9 x10 x11, F x1 x2 x3 x4 x5 x6 x7 x8 x9 x10 x11 → P x1 x2 x3 x4 x5 x6 x7 x8 x9 x10 x11) → G) (k : ∀ x1 x2 x3 x4 x5 x6 x7 x8 x9 x10 x11, F x1 x2 x3 x4 x5 x6 x7 x8 x9 x10 x11 → P x1 x2 x3 x4 x5 x6 x7 x8 x9 x10 x11) : G := main k
theorem merge12 {A1 : Sort u1} {A2 : Sort u2} {A3 : Sort u3} {A4 : Sort u4} {A5 : Sort u5} {A6 : Sort u6} {A7 : Sort u7} {A8 : Sort u8} {A9 : Sort u9} {A10 : Sort u10} {A11 : Sort u11} {A12 : Sort u12} (F : A1 → A2 → A3 → A4 → A5 → A6 → A7 → A8 → A9 → A10 → A11 → A12 → Prop) {P : A1 → A2 → A3 → A4 → A5 → A6 → A7 → A8 → A9 → A10 → A11 → A12 → Prop} {G : Prop} (main : (∀ x1 x2 x3 x4 x5 x6 x7 x8 x9 x10 x11 x12, F x1 x2 x3 x4 x5 x6 x7 x8 x9 x10 x11 x12 → P x1 x2 x3 x4 x5 x6 x7 x8 x9 x10 x11 x12) → G) (k : ∀ x1 x2 x3 x4 x5 x6 x7 x8 x9 x10 x11 x12, F x1 x2 x3 x4 x5 x6 x7 x8 x9 x10 x11 x12 → P x1 x2 x3 x4 x5 x6 x7 x8 x9 x10 x11 x12) : G := main k
theorem merge13 {A1 : Sort u1} {A2 : Sort u2} {A3 : Sort u3} {A4 : Sort u4} {A5 : Sort u5} {A6 : Sort u6} {A7 : Sort u7} {A8 : Sort u8} {A9 : Sort u9} {A10 : Sort u10} {A11 : Sort u11} {A12 : Sort u12} {A13 : Sort u13} (F : A1 → A2 → A3 → A4 → A5 → A6 → A7 → A8 → A9 → A10 → A11 → A12 → A13 → Prop) {P : A1 → A2 → A3 → A4 → A5 → A6 → A7 → A8 → A9 → A10 → A11 → A12 → A13 → Prop} {G : Prop} (main : (∀ x1 x2 x3 x4 x5 x6 x7 x8 x9 x10 x11 x12 x13, F x1 x2 x3 x4 x5 x6 x7 x8 x9 x10 x11 x12 x13 → P x1 x2 x3 x4 x5 x6 x7 x8 x9 x10 x11 x12 x13) → G) (k : ∀ x1 x2 x3 x4 x5 x6 x7 x8 x9 x10 x11 x12 x13, F x1 x2 x3 x4 x5 x6 x7 x8 x9 x10 x11 x12 x13 → P x1 x2 x3 x4 x5 x6 x7 x8 x9 x10 x11 x12 x13) : G := main k
end

end Go.Proofs.YtpohaikbbfochaaDoor

/-
  Trailing zeros of a word, plainly, and the table by which the library finds them.
-/
namespace Cad.Bit
open Go Go.RowKit Cad Cad.Code
set_option linter.unusedVariables false

def dbTab : List Int := [0, 1, 56, 2, 57, 49, 28, 3, 61, 58, 42, 50, 38, 29, 17, 4, 62, 47, 59, 36, 45, 43, 51, 22, 53, 39, 33, 30, 24, 18, 12, 5, 63, 55, 48, 27, 60, 41, 37, 16, 46, 35, 44, 21, 52, 32, 23, 11, 54, 26, 40, 15, 34, 20, 31, 10, 25, 14, 19, 9, 13, 8, 7, 6]

theorem not64 (a : Nat) (ha : a < 18446744073709551616) : bits .xor .u64 IntKind.u64.max (a : Int) = 18446744073709551615 - (a : Int) := by
  show IntKind.u64.wrap ((BitVec.ofInt 64 IntKind.u64.max ^^^ BitVec.ofInt 64 (a : Int)).toNat : Int) = _
  have h1 : BitVec.ofInt 64 IntKind.u64.max = BitVec.allOnes 64 := by decide
  rw [h1, BitVec.allOnes_xor, BitVec.toNat_not, ofInt_u64 a (by omega), IntKind.wrap_u64]
  omega

/-- Where the table is looked at for the word 2^i. -/
def dbAt (i : Nat) : Nat := 2 ^ i * 285870213051353865 % 18446744073709551616 / 288230376151711744
theorem dbAt_all : (List.range 64).all (fun i => decide (dbAt i < 64) && decide (nth dbTab (dbAt i) = (i : Int))) = true := by decide +kernel
theorem dbAt_ok {i : Nat} (h : i < 64) : dbAt i < 64 ∧ nth dbTab (dbAt i) = (i : Int) := by
  have := List.all_eq_true.1 dbAt_all i (List.mem_range.2 h)
  simpa using this

/-- The lowest one of a word: x is 2^i times an odd number. -/
theorem low_one {x i q : Nat} (hx : x < 18446744073709551616) (h : x = 2 ^ i * (2 * q + 1)) : bits .and .u64 (x : Int) (IntKind.u64.wrap (-(x : Int))) = ((2 ^ i : Nat) : Int) := by
  have hp := Nat.two_pow_pos i
  have hpos : 0 < x := by rw [h]; exact Nat.mul_pos hp (by omega)
  have hi : i < 64 := by
    rcases Nat.lt_or_ge i 64 with h1 | h1
    · exact h1
    · have h2 : 2 ^ 64 ≤ 2 ^ i := Nat.pow_le_pow_right (by omega) h1
      have h3 : 2 ^ i * 1 ≤ 2 ^ i * (2 * q + 1) := Nat.mul_le_mul_left _ (by omega)
      have h4 : (2 : Nat) ^ 64 = 18446744073709551616 := by decide
      omega
  have hw : IntKind.u64.wrap (-(x : Int)) = ((18446744073709551616 - x : Nat) : Int) := by
    rw [IntKind.wrap_u64]; omega
  rw [hw, u64_and_nat _ _ hx (by omega)]
  congr 1
  -- 2^64 - x = 2^i * (2 * r + 1)
  have h64 : (18446744073709551616 : Nat) = 2 ^ i * 2 ^ (64 - i) := by rw [← Nat.pow_add, show i + (64 - i) = 64 by omega]
  obtain ⟨r, hr, hr2⟩ : ∃ r, 2 ^ (64 - i) = 2 * r ∧ r = 2 ^ (63 - i) := ⟨2 ^ (63 - i), by rw [show 64 - i = (63 - i) + 1 by omega, Nat.pow_succ]; omega, rfl⟩
  have hlt : 2 * q + 1 < 2 * r := by
    rw [← hr]
    have : 2 ^ i * (2 * q + 1) < 2 ^ i * 2 ^ (64 - i) := by rw [← h, ← h64]; exact hx
    exact Nat.lt_of_mul_lt_mul_left this
  have h2 : 18446744073709551616 - x = 2 ^ i * (2 * (r - q - 1) + 1) := by
    rw [h64, h, ← Nat.mul_sub, hr]; congr 1; omega
  rw [h2, h]
  apply Nat.eq_of_testBit_eq
  intro j
  rw [Nat.testBit_and, Nat.testBit_two_pow_mul, Nat.testBit_two_pow_mul, Nat.testBit_two_pow]
  by_cases hj : i ≤ j
  · simp only [hj, decide_true, Bool.true_and]
    obtain ⟨k, rfl⟩ : ∃ k, j = i + k := ⟨j - i, by omega⟩
    rw [Nat.add_sub_cancel_left]
    cases k with
    | zero =>
      have e1 : Nat.testBit (2 * q + 1) 0 = true := by rw [Nat.testBit_zero]; simp
      have e2 : Nat.testBit (2 * (r - q - 1) + 1) 0 = true := by rw [Nat.testBit_zero]; simp
      rw [e1, e2]; simp
    | succ k =>
      have e1 : Nat.testBit (2 * q + 1) (k + 1) = Nat.testBit q k := by rw [Nat.testBit_succ]; congr 1; omega
      have e2 : Nat.testBit (2 * (r - q - 1) + 1) (k + 1) = Nat.testBit (r - q - 1) k := by rw [Nat.testBit_succ]; congr 1; omega
      have e3 : r - q - 1 = 2 ^ (63 - i) - (q + 1) := by rw [← hr2]; omega
      rw [e1, e2, e3, Nat.testBit_two_pow_sub_succ (by rw [← hr2]; omega)]
      have e4 : decide (i = i + (k + 1)) = false := decide_eq_false (by omega)
      rw [e4]
      cases q.testBit k <;> simp
  · have : ¬ i = j := by omega
    simp [hj, this]

/-- The ones that a word begins with, and the word with its bits turned: the first zero is the first one. -/
theorem not_word {v : Nat} (hv : v < 18446744073709551616) : ∃ i q, i = ones (lowBits v 64) ∧ (i < 64 → 18446744073709551615 - v = 2 ^ i * (2 * q + 1)) ∧ (i = 64 → 18446744073709551615 - v = 0) := by
  have hb := bval_lowBits_lt (n := 64) (v := v) hv
  obtain ⟨r, h1, h2⟩ := ones_split (lowBits v 64)
  have hlen := lowBits_len 64 v
  have hle := ones_le (lowBits v 64)
  rw [hlen] at hle
  generalize ones (lowBits v 64) = i at *
  have hr : r.length = 64 - i := by
    have := congrArg List.length h1
    rw [hlen, List.length_append, List.length_replicate] at this
    omega
  have hval : v = 2 ^ i - 1 + 2 ^ i * bval r := by
    rw [← hb, h1, bval_append, bval_replicate_true, List.length_replicate]
  have hp := Nat.two_pow_pos i
  rcases h2 with rfl | ⟨t, rfl⟩
  · have hi : i = 64 := by simp at hr; omega
    subst hi
    refine ⟨64, 0, rfl, fun h => absurd h (by omega), fun _ => ?_⟩
    rw [hval]; decide
  · have hlt : i < 64 := by rw [List.length_cons] at hr; omega
    have ht : t.length = 63 - i := by rw [List.length_cons] at hr; omega
    have hbt := bval_lt t
    rw [ht] at hbt
    refine ⟨i, 2 ^ (63 - i) - 1 - bval t, rfl, fun _ => ?_, fun h => absurd h (by omega)⟩
    have e : bval (false :: t) = 2 * bval t := by simp [bval]
    rw [e] at hval
    have h64 : (18446744073709551616 : Nat) = 2 ^ i * (2 * 2 ^ (63 - i)) := by rw [← Nat.pow_succ', ← Nat.pow_add, show i + (63 - i + 1) = 64 by omega]
    have h3 : 2 * (2 ^ (63 - i) - 1 - bval t) + 1 + (2 * bval t) + 1 = 2 * 2 ^ (63 - i) := by omega
    have h4 : 2 ^ i * (2 * (2 ^ (63 - i) - 1 - bval t) + 1) + 2 ^ i * (2 * bval t) + 2 ^ i = 18446744073709551616 := by
      rw [h64, ← h3]; simp only [Nat.mul_add, Nat.mul_one]
    omega
theorem ones_word' {l : List Bool} (hl : l.length ≤ 63) : ones (lowBits (bval l) 64) = ones l := by
  have h : lowBits (bval l) 64 = l ++ lowBits 0 (64 - l.length) := by
    have e : 64 = l.length + (64 - l.length) := by omega
    conv => lhs; rw [e]
    rw [lowBits_add, lowBits_bval, Nat.div_eq_of_lt (bval_lt l)]
  have hz : ∃ t, lowBits 0 (64 - l.length) = false :: t := by
    obtain ⟨k, hk⟩ : ∃ k, 64 - l.length = k + 1 := ⟨63 - l.length, by omega⟩
    rw [hk]; exact ⟨_, rfl⟩
  obtain ⟨t, ht⟩ := hz
  rw [h, ht]
  clear h ht hl
  induction l with
  | nil => rfl
  | cons b r ih => cases b <;> simp [ones, ih]

end Cad.Bit

/-
  Contract of the library's count of trailing zeros.
-/
namespace Go.Proofs.YtpohaikbbfochaaDoor
open Go.RowKit Cad Cad.Bit Cad.Code
set_option linter.unusedVariables false
set_option linter.unusedSimpArgs false

/-- The library's table lies where it was laid. -/
def Tab (w : World) : Prop := Row .u8 w (some ⟨0, 0, none⟩) 64 dbTab

set_option maxHeartbeats 400000 in
theorem ntz_some (x i q : Nat) (w : World) (hx : x < 18446744073709551616) (hi : i < 64) (h : x = 2 ^ i * (2 * q + 1)) (ht : Tab w) :
    Calls Tryd.prog 46 #[.int .u64 (x : Int)] w fun e w' => e = .returned (.int .i64 (i : Int)) ∧ w = w' := by
  have hpos : 0 < x := by rw [h]; exact Nat.mul_pos (Nat.two_pow_pos i) (by omega)
  have e1 := low_one hx h
  obtain ⟨hJ, hT⟩ := dbAt_ok hi
  obtain ⟨P, hP⟩ : ∃ P, 2 ^ i = P := ⟨_, rfl⟩
  obtain ⟨J, hJJ⟩ : ∃ J, dbAt i = J := ⟨_, rfl⟩
  have e2 : IntKind.u64.wrap ((P : Int) * 285870213051353865) / 288230376151711744 = (J : Int) := by
    rw [IntKind.wrap_u64, ← hJJ, ← hP]; unfold dbAt; omega
  rw [hP] at e1
  rw [hJJ] at hJ hT
  obtain ⟨b, o, hb, _, hc⟩ := ht.at (by decide)
  simp only [Option.some.injEq, Addr.mk.injEq] at hb
  obtain ⟨rfl, rfl, _⟩ := hb
  have c1 : w.cell? ⟨0, J, none⟩ = some (.int .u8 (i : Int)) := by
    have := hc J hJ
    rwa [hT, Nat.zero_add] at this
  clear h hP hJJ hc hT
  go_enter Tryd.func46, Tryd.ntmps46
  go_wp2
  go_ret
  exact ⟨rfl, rfl⟩
theorem ntz_zero (w : World) :
    Calls Tryd.prog 46 #[.int .u64 0] w fun e w' => e = .returned (.int .i64 64) ∧ w = w' := by
  go_enter Tryd.func46, Tryd.ntmps46
  go_wp2
  go_ret
  exact ⟨rfl, rfl⟩
/-- The trailing zeros of a word whose bits are turned: the ones that it begins with. -/
theorem ntz_not (l : List Bool) (z : Int) (w : World) (hl : l.length ≤ 63) (hz : z = 18446744073709551615 - (bval l : Nat)) (ht : Tab w) :
    Calls Tryd.prog 46 #[.int .u64 z] w fun e w' => ∃ n : Nat, e = .returned (.int .i64 (n : Int)) ∧ Hid (n = ones l) ∧ w = w' := by
  have hb : bval l < 18446744073709551616 := Nat.lt_of_lt_of_le (bval_lt l) (pow_le_u64 (by omega))
  obtain ⟨i, q, hi, h1, h2⟩ := not_word hb
  rw [ones_word' hl] at hi
  have hlt : i < 64 := by have := ones_le l; omega
  have e : z = ((18446744073709551615 - bval l : Nat) : Int) := by rw [hz]; omega
  rw [e]
  exact (ntz_some _ i q w (by omega) hlt (h1 hlt) ht).mono fun e w' ⟨he, hw⟩ => ⟨i, he, Lib.hid hi, hw⟩

end Go.Proofs.YtpohaikbbfochaaDoor

/-
  Contract of Read of runs.
-/
namespace Go.Proofs.YtpohaikbbfochaaDoor
open Go.RowKit Cad Cad.Bit Cad.Code
set_option linter.unusedVariables false
set_option linter.unusedSimpArgs false

/-- What Read returns: the number, the index behind it, the error. -/
def urR (bs : List Bool) (p : Int) : Int × Int × Int :=
  if p < 0 then (0, 0, 2) else match readU (bs.drop p.toNat) with
    | .ok n m => ((n : Nat), p + (m : Nat), 0)
    | .err _ => (0, 0, 24)

set_option maxHeartbeats 400000 in
theorem take_any (gb ga : Nat) (A : Option Addr) (m c : Nat) (N p : Nat) (w : World) (hN : N ≤ 330000) (hp : p ≤ N) (hb : Blk w gb 26 [.slice A m c, .int .i64 (N : Nat)]) (ha : Blk w ga 3 [.int .i64 (p : Nat)]) :
    Calls Tryd.prog 45 #[.pointer (some ⟨gb, 0, none⟩), .pointer (some ⟨ga, 0, none⟩)] w fun e w' => ∃ y : Nat, e = .returned (.int .i64 (y : Int)) ∧ Hid (y = min 48 (N - p)) ∧ w = w' := by
  have kb := hb.cell; have ka := ha.cell
  by_cases h : 48 ≤ N - p
  · have h' : (48 : Int) ≤ (N : Int) - (p : Int) := by omega
    go_enter Tryd.func45, Tryd.ntmps45
    go_wp2
    go_ret
    exact ⟨48, rfl, Lib.hid (by omega), rfl⟩
  · obtain ⟨y, hy⟩ : ∃ y, N - p = y := ⟨_, rfl⟩
    have h' : (N : Int) - (p : Int) = (y : Int) := by omega
    have h2 : ¬ (48 : Int) ≤ (y : Int) := by omega
    have HY := Lib.hid hy
    clear hy h
    go_enter Tryd.func45, Tryd.ntmps45
    go_wp2
    go_ret
    exact ⟨y, rfl, Lib.hid (by have := HY.out; omega), rfl⟩


theorem readU_take {l : List Bool} {K n : Nat} (hK : K = min 48 l.length) (hn : n = ones (l.take K)) :
    (n < K → readU l = .ok n (n + 1)) ∧ (n = 48 → readU l = .ok 48 48) ∧ (¬ n < K → n ≠ 48 → readU l = .err 24) ∧ n ≤ K := by
  have e : ones (l.take 48) = n := by
    rw [hn, hK, ones_take, ones_take]; have := ones_le l; omega
  have hle : n ≤ K := by rw [hn, ones_take]; omega
  unfold readU
  rw [e]
  refine ⟨fun h => ?_, fun h => ?_, fun h1 h2 => ?_, hle⟩
  · rw [if_neg (by omega), if_pos (by omega)]
  · rw [if_pos h]
  · rw [if_neg h2, if_neg (by omega)]

set_option maxRecDepth 100000 in
set_option maxHeartbeats 1000000 in
theorem uread_ret (A : Option Addr) (m c : Nat) (bs : List Bool) (p : Int) (w : World) (ha : Row .u8 w A m (pack bs)) (hc : m ≤ c ∧ c ≤ 9223372036854775807) (hl : bs.length ≤ 330000) (hp : -9223372036854775808 ≤ p ∧ p ≤ 9223372036854775807) (ht : Tab w) :
    Calls Tryd.prog 17 #[.agg #[.slice A m c, .int .i64 ((bs.length : Nat) : Int)], .int .i64 p] w fun e w' => e = .returned (.tuple #[.int .i64 (urR bs p).1, .int .i64 (urR bs p).2.1, .int .i64 (urR bs p).2.2]) ∧ Below w.heap.size w w' := by
  have hri := ha.rowIn
  have hti : RowIn .u8 w 0 w.heap.size (some ⟨0, 0, none⟩) 64 dbTab := ht.rowIn
  have hmf : ∀ (fn : Fn) (first cap : Array Value) (w : World), (Instr.makeFunc fn first cap).run Tryd.prog w = .ok (.func fn first cap) w := fun _ _ _ _ => rfl
  by_cases h1 : p < 0
  · have HR : Hid (urR bs p = (0, 0, 2)) := by unfold urR; rw [if_pos h1]; rfl
    go_enter Tryd.func17, Tryd.ntmps17
    go_wp2_with fail
    refine (bcheck_ok A m c bs _ (by exact ((ha.alloc _).alloc _)) (by omega) hl).mono ?_
    rintro e w1 ⟨rfl, b1⟩
    have s1 := b1.size
    try simp only [World.size_alloc, World.size_setCell, World.size_drew, size_drewN] at s1
    obtain ⟨zb_1, zp_1, rb_1, rt_1, bb_1⟩ : Blk w1 (w.heap.size) 26 [.slice A m c, .int .i64 ((bs.length : Nat) : Int)] ∧ Blk w1 (w.heap.size + 1) 3 [.int .i64 p] ∧ RowIn .u8 w1 (0) (w.heap.size) A m (pack bs) ∧ RowIn .u8 w1 (0) (w.heap.size) (some ⟨0, 0, none⟩) 64 dbTab ∧ Below w.heap.size w w1 := by
      refine ⟨?_, ?_, ?_, ?_, ?_⟩
      all_goals repeat' (first | (with_reducible assumption) | (with_reducible exact Below.refl _ _) | (with_reducible refine Blk.after ?_ b1) | (with_reducible refine RowIn.belowS ?_ b1) | (with_reducible refine Below.after ?_ b1 ?_) | (with_reducible refine Blk.drewN ?_ _) | (with_reducible refine RowIn.drewN ?_ _) | (with_reducible refine below_drewN ?_ _) | (with_reducible refine Blk.drew ?_) | (with_reducible refine RowIn.drew ?_) | (with_reducible refine Below.drew ?_) | (with_reducible refine Blk.new' ?_ ?_ <;> first | (with_reducible rfl) | (simp; done)) | (with_reducible refine Blk.alloc ?_ _) | (with_reducible refine RowIn.alloc ?_ _) | (with_reducible refine Below.alloc ?_ ?_ _) | (with_reducible apply Blk.set') | (with_reducible refine Blk.far' ?_ ?_ _) | (with_reducible refine RowIn.far' ?_ ?_ _) | (with_reducible refine Below.far' ?_ ?_ _) | rfl | omega | go_size)
    clear b1
    have kb_1 := zb_1.cell; have fb_1 := zb_1.frozen; have lb_1 := zb_1.lt
    have kp_1 := zp_1.cell; have fp_1 := zp_1.frozen; have lp_1 := zp_1.lt
    go_wp2
    go_ret3
    refine ⟨by rw [HR.out]; rfl, ?_⟩
    repeat' (first | (with_reducible assumption) | (with_reducible exact Below.refl _ _) | (with_reducible refine Blk.drewN ?_ _) | (with_reducible refine RowIn.drewN ?_ _) | (with_reducible refine below_drewN ?_ _) | (with_reducible refine Blk.drew ?_) | (with_reducible refine RowIn.drew ?_) | (with_reducible refine Below.drew ?_) | (with_reducible refine Blk.new' ?_ ?_ <;> first | (with_reducible rfl) | (simp; done)) | (with_reducible refine Blk.alloc ?_ _) | (with_reducible refine RowIn.alloc ?_ _) | (with_reducible refine Below.alloc ?_ ?_ _) | (with_reducible apply Blk.set') | (with_reducible refine Blk.far' ?_ ?_ _) | (with_reducible refine RowIn.far' ?_ ?_ _) | (with_reducible refine Below.far' ?_ ?_ _) | rfl | omega | go_size)
  obtain ⟨i, rfl⟩ := Int.eq_ofNat_of_zero_le (by omega : 0 ≤ p)
  by_cases h2 : bs.length ≤ i
  · have HR : Hid (urR bs (i : Nat) = (0, 0, 24)) := by
      unfold urR; rw [if_neg h1, Int.toNat_natCast, List.drop_of_length_le h2]; rfl
    go_enter Tryd.func17, Tryd.ntmps17
    go_wp2_with fail
    refine (bcheck_ok A m c bs _ (by exact ((ha.alloc _).alloc _)) (by omega) hl).mono ?_
    rintro e w1 ⟨rfl, b1⟩
    have s1 := b1.size
    try simp only [World.size_alloc, World.size_setCell, World.size_drew, size_drewN] at s1
    obtain ⟨zb_1, zp_1, rb_1, rt_1, bb_1⟩ : Blk w1 (w.heap.size) 26 [.slice A m c, .int .i64 ((bs.length : Nat) : Int)] ∧ Blk w1 (w.heap.size + 1) 3 [.int .i64 ((i : Nat) : Int)] ∧ RowIn .u8 w1 (0) (w.heap.size) A m (pack bs) ∧ RowIn .u8 w1 (0) (w.heap.size) (some ⟨0, 0, none⟩) 64 dbTab ∧ Below w.heap.size w w1 := by
      refine ⟨?_, ?_, ?_, ?_, ?_⟩
      all_goals repeat' (first | (with_reducible assumption) | (with_reducible exact Below.refl _ _) | (with_reducible refine Blk.after ?_ b1) | (with_reducible refine RowIn.belowS ?_ b1) | (with_reducible refine Below.after ?_ b1 ?_) | (with_reducible refine Blk.drewN ?_ _) | (with_reducible refine RowIn.drewN ?_ _) | (with_reducible refine below_drewN ?_ _) | (with_reducible refine Blk.drew ?_) | (with_reducible refine RowIn.drew ?_) | (with_reducible refine Below.drew ?_) | (with_reducible refine Blk.new' ?_ ?_ <;> first | (with_reducible rfl) | (simp; done)) | (with_reducible refine Blk.alloc ?_ _) | (with_reducible refine RowIn.alloc ?_ _) | (with_reducible refine Below.alloc ?_ ?_ _) | (with_reducible apply Blk.set') | (with_reducible refine Blk.far' ?_ ?_ _) | (with_reducible refine RowIn.far' ?_ ?_ _) | (with_reducible refine Below.far' ?_ ?_ _) | rfl | omega | go_size)
    clear b1
    have kb_1 := zb_1.cell; have fb_1 := zb_1.frozen; have lb_1 := zb_1.lt
    have kp_1 := zp_1.cell; have fp_1 := zp_1.frozen; have lp_1 := zp_1.lt
    go_wp2
    go_ret3
    refine ⟨by rw [HR.out]; rfl, ?_⟩
    repeat' (first | (with_reducible assumption) | (with_reducible exact Below.refl _ _) | (with_reducible refine Blk.drewN ?_ _) | (with_reducible refine RowIn.drewN ?_ _) | (with_reducible refine below_drewN ?_ _) | (with_reducible refine Blk.drew ?_) | (with_reducible refine RowIn.drew ?_) | (with_reducible refine Below.drew ?_) | (with_reducible refine Blk.new' ?_ ?_ <;> first | (with_reducible rfl) | (simp; done)) | (with_reducible refine Blk.alloc ?_ _) | (with_reducible refine RowIn.alloc ?_ _) | (with_reducible refine Below.alloc ?_ ?_ _) | (with_reducible apply Blk.set') | (with_reducible refine Blk.far' ?_ ?_ _) | (with_reducible refine RowIn.far' ?_ ?_ _) | (with_reducible refine Below.far' ?_ ?_ _) | rfl | omega | go_size)
  have hib : i < bs.length := by omega
  have hlen : (bs.drop i).length = bs.length - i := List.length_drop ..
  have HLEN := Lib.hid hlen
  clear h1 h2 hlen
  go_enter Tryd.func17, Tryd.ntmps17
  go_wp2_with fail
  refine (bcheck_ok A m c bs _ (by exact ((ha.alloc _).alloc _)) (by omega) hl).mono ?_
  rintro e w1 ⟨rfl, b1⟩
  have s1 := b1.size
  try simp only [World.size_alloc, World.size_setCell, World.size_drew, size_drewN] at s1
  obtain ⟨zb_1, zp_1, rb_1, rt_1, bb_1⟩ : Blk w1 (w.heap.size) 26 [.slice A m c, .int .i64 ((bs.length : Nat) : Int)] ∧ Blk w1 (w.heap.size + 1) 3 [.int .i64 ((i : Nat) : Int)] ∧ RowIn .u8 w1 (0) (w.heap.size) A m (pack bs) ∧ RowIn .u8 w1 (0) (w.heap.size) (some ⟨0, 0, none⟩) 64 dbTab ∧ Below w.heap.size w w1 := by
    refine ⟨?_, ?_, ?_, ?_, ?_⟩
    all_goals repeat' (first | (with_reducible assumption) | (with_reducible exact Below.refl _ _) | (with_reducible refine Blk.after ?_ b1) | (with_reducible refine RowIn.belowS ?_ b1) | (with_reducible refine Below.after ?_ b1 ?_) | (with_reducible refine Blk.drewN ?_ _) | (with_reducible refine RowIn.drewN ?_ _) | (with_reducible refine below_drewN ?_ _) | (with_reducible refine Blk.drew ?_) | (with_reducible refine RowIn.drew ?_) | (with_reducible refine Below.drew ?_) | (with_reducible refine Blk.new' ?_ ?_ <;> first | (with_reducible rfl) | (simp; done)) | (with_reducible refine Blk.alloc ?_ _) | (with_reducible refine RowIn.alloc ?_ _) | (with_reducible refine Below.alloc ?_ ?_ _) | (with_reducible apply Blk.set') | (with_reducible refine Blk.far' ?_ ?_ _) | (with_reducible refine RowIn.far' ?_ ?_ _) | (with_reducible refine Below.far' ?_ ?_ _) | rfl | omega | go_size)
  clear b1
  have kb_1 := zb_1.cell; have fb_1 := zb_1.frozen; have lb_1 := zb_1.lt
  have kp_1 := zp_1.cell; have fp_1 := zp_1.frozen; have lp_1 := zp_1.lt
  go_wp2_with fail
  have hK0 : ∀ K : Nat, Hid (K = min 48 (bs.length - i)) → K ≤ 48 ∧ K ≤ bs.length - i ∧ 1 ≤ K := fun K h => by have := h.out; omega
  have HK0 := Lib.hid hK0
  clear hK0
  go_region_law (first
    | (go_simp; go_at_call 45; refine (take_any _ _ A m c bs.length i _ hl (by omega) (by exact zb_1) (by exact zp_1)).mono ?_; rintro e _ ⟨K, rfl, HK, rfl⟩
       obtain ⟨hK1, hK2, hK3⟩ := HK0.out K HK)
    | (go_simp; go_at_call 15; refine (bget_ok A m c bs (i : Nat) (K : Nat) _ (by exact rb_1.row) hc hl (by omega) (by omega) (by omega)).mono ?_; rintro e w2 ⟨y, rfl, HY, b2⟩
       have s2 := b2.size
       try simp only [World.size_alloc, World.size_setCell, World.size_drew, size_drewN] at s2
       obtain ⟨zb_2, zp_2, rb_2, rt_2, bb_2⟩ : Blk w2 (w.heap.size) 26 [.slice A m c, .int .i64 ((bs.length : Nat) : Int)] ∧ Blk w2 (w.heap.size + 1) 3 [.int .i64 ((i : Nat) : Int)] ∧ RowIn .u8 w2 (0) (w.heap.size) A m (pack bs) ∧ RowIn .u8 w2 (0) (w.heap.size) (some ⟨0, 0, none⟩) 64 dbTab ∧ Below w.heap.size w w2 := by
         refine ⟨?_, ?_, ?_, ?_, ?_⟩
         all_goals repeat' (first | (with_reducible assumption) | (with_reducible exact Below.refl _ _) | (with_reducible refine Blk.after ?_ b2) | (with_reducible refine RowIn.belowS ?_ b2) | (with_reducible refine Below.after ?_ b2 ?_) | (with_reducible refine Blk.drewN ?_ _) | (with_reducible refine RowIn.drewN ?_ _) | (with_reducible refine below_drewN ?_ _) | (with_reducible refine Blk.drew ?_) | (with_reducible refine RowIn.drew ?_) | (with_reducible refine Below.drew ?_) | (with_reducible refine Blk.new' ?_ ?_ <;> first | (with_reducible rfl) | (simp; done)) | (with_reducible refine Blk.alloc ?_ _) | (with_reducible refine RowIn.alloc ?_ _) | (with_reducible refine Below.alloc ?_ ?_ _) | (with_reducible apply Blk.set') | (with_reducible refine Blk.far' ?_ ?_ _) | (with_reducible refine RowIn.far' ?_ ?_ _) | (with_reducible refine Below.far' ?_ ?_ _) | rfl | omega | go_size)
       clear zb_1 zp_1 rb_1 rt_1 bb_1 kb_1 fb_1 lb_1 kp_1 fp_1 lp_1 b2
       have kb_2 := zb_2.cell; have fb_2 := zb_2.frozen; have lb_2 := zb_2.lt
       have kp_2 := zp_2.cell; have fp_2 := zp_2.frozen; have lp_2 := zp_2.lt))
  all_goals
    rw [Int.toNat_natCast, Int.toNat_natCast] at HY
    have hy64 : y < 18446744073709551616 := by rw [HY.out]; exact Nat.lt_of_lt_of_le (bval_lt _) (pow_le_u64 (by have := List.length_take_le K (bs.drop i); omega))
    go_wp2_with fail
    refine (ntz_not ((bs.drop i).take K) _ w2 (by have := List.length_take_le K (bs.drop i); omega) (by rw [not64 y hy64, HY.out]) (by exact rt_2.row)).mono ?_
    rintro e _ ⟨n, rfl, HN, rfl⟩
    obtain ⟨c1, c2, c3, hnK⟩ := readU_take (l := bs.drop i) (by rw [HK.out, HLEN.out]) HN.out
    have C1 := Lib.hid c1; have C2 := Lib.hid c2; have C3 := Lib.hid c3
    clear c1 c2 c3
    go_wp2_with fail
    refine (take_any _ _ A m c bs.length i _ hl (by omega) (by exact zb_2) (by exact zp_2)).mono ?_
    rintro e _ ⟨K2, rfl, HK2, rfl⟩
    obtain rfl : K2 = K := by rw [HK2.out, HK.out]
    clear HK2
    by_cases hn1 : n < K2
    · have HR : Hid (urR bs (i : Nat) = (((n : Nat) : Int), (i : Int) + ((n + 1 : Nat) : Int), 0)) := by unfold urR; rw [if_neg (by omega), Int.toNat_natCast, C1.out hn1]; rfl
      go_wp2
      go_ret3
      refine ⟨by rw [HR.out]; go_num, ?_⟩
      exact bb_2
    by_cases hn2 : n = 48
    · have HR : Hid (urR bs (i : Nat) = (48, (i : Int) + 48, 0)) := by unfold urR; rw [if_neg (by omega), Int.toNat_natCast, C2.out hn2]; rfl
      subst hn2
      go_wp2
      go_ret3
      refine ⟨by rw [HR.out]; go_num, ?_⟩
      exact bb_2
    · have HR : Hid (urR bs (i : Nat) = (0, 0, 24)) := by unfold urR; rw [if_neg (by omega), Int.toNat_natCast, C3.out hn1 hn2]; rfl
      have t1 : ((n : Int) == 48) = false := beq_eq_false_iff_ne.2 (by omega)
      clear hn2
      go_wp2
      go_ret3
      refine ⟨by rw [HR.out]; rfl, ?_⟩
      exact bb_2


theorem uread_ok (A : Option Addr) (m c : Nat) (bs : List Bool) (p : Int) (n k : Nat) (w : World) (ha : Row .u8 w A m (pack bs)) (hc : m ≤ c ∧ c ≤ 9223372036854775807) (hl : bs.length ≤ 330000) (hp : 0 ≤ p ∧ p ≤ 9223372036854775807) (hr : readU (bs.drop p.toNat) = .ok n k) (ht : Tab w) :
    Calls Tryd.prog 17 #[.agg #[.slice A m c, .int .i64 ((bs.length : Nat) : Int)], .int .i64 p] w fun e w' => ∃ z : Nat, e = .returned (.tuple #[.int .i64 (n : Int), .int .i64 (z : Int), .int .i64 0]) ∧ Hid (z = p.toNat + k) ∧ Below w.heap.size w w' := by
  have h := uread_ret A m c bs p w ha hc hl (by omega) ht
  have e : urR bs p = ((n : Int), ((p.toNat + k : Nat) : Int), 0) := by unfold urR; rw [if_neg (by omega), hr]; simp; omega
  rw [e] at h
  exact h.mono fun e w' ⟨he, hb⟩ => ⟨_, he, Lib.hid rfl, hb⟩
theorem uread_short (A : Option Addr) (m c : Nat) (bs : List Bool) (p : Int) (k : Nat) (w : World) (ha : Row .u8 w A m (pack bs)) (hc : m ≤ c ∧ c ≤ 9223372036854775807) (hl : bs.length ≤ 330000) (hp : 0 ≤ p ∧ p ≤ 9223372036854775807) (hr : readU (bs.drop p.toNat) = .err k) (ht : Tab w) :
    Calls Tryd.prog 17 #[.agg #[.slice A m c, .int .i64 ((bs.length : Nat) : Int)], .int .i64 p] w fun e w' => e = .returned (.tuple #[.int .i64 0, .int .i64 0, .int .i64 24]) ∧ Below w.heap.size w w' := by
  have h := uread_ret A m c bs p w ha hc hl (by omega) ht
  have e : urR bs p = (0, 0, 24) := by unfold urR; rw [if_neg (by omega), hr]
  rw [e] at h
  exact h

set_option maxHeartbeats 400000 in
theorem uread_bad (A : Option Addr) (m c : Nat) (N : Int) (bytes : List Int) (p : Int) (w : World) (ha : Row .u8 w A m bytes) (hb : Within 0 255 bytes) (hc : m ≤ c ∧ c ≤ 9223372036854775807) (hv : ¬ Valid bytes N) :
    Calls Tryd.prog 17 #[.agg #[.slice A m c, .int .i64 N], .int .i64 p] w fun e w' => e = .returned (.tuple #[.int .i64 0, .int .i64 0, .int .i64 8]) ∧ Below w.heap.size w w' := by
  go_enter Tryd.func17, Tryd.ntmps17
  go_wp2_with fail
  refine (bcheck_bad A m c N bytes _ (by exact ((ha.alloc _).alloc _)) hb (by omega) hv).mono ?_
  rintro e w1 ⟨rfl, b1⟩
  have s1 := b1.size
  try simp only [World.size_alloc, World.size_setCell, World.size_drew, size_drewN] at s1
  obtain ⟨zb_1, bb_1⟩ : Blk w1 (w.heap.size) 26 [.slice A m c, .int .i64 N] ∧ Below w.heap.size w w1 := by
    refine ⟨?_, ?_⟩
    all_goals repeat' (first | (with_reducible assumption) | (with_reducible exact Below.refl _ _) | (with_reducible refine Blk.after ?_ b1) | (with_reducible refine RowIn.belowS ?_ b1) | (with_reducible refine Below.after ?_ b1 ?_) | (with_reducible refine Blk.drewN ?_ _) | (with_reducible refine RowIn.drewN ?_ _) | (with_reducible refine below_drewN ?_ _) | (with_reducible refine Blk.drew ?_) | (with_reducible refine RowIn.drew ?_) | (with_reducible refine Below.drew ?_) | (with_reducible refine Blk.new' ?_ ?_ <;> first | (with_reducible rfl) | (simp; done)) | (with_reducible refine Blk.alloc ?_ _) | (with_reducible refine RowIn.alloc ?_ _) | (with_reducible refine Below.alloc ?_ ?_ _) | (with_reducible apply Blk.set') | (with_reducible refine Blk.far' ?_ ?_ _) | (with_reducible refine RowIn.far' ?_ ?_ _) | (with_reducible refine Below.far' ?_ ?_ _) | rfl | omega | go_size)
  clear b1
  have kb_1 := zb_1.cell; have fb_1 := zb_1.frozen; have lb_1 := zb_1.lt
  go_wp2
  go_ret3
  refine ⟨rfl, ?_⟩
  repeat' (first | (with_reducible assumption) | (with_reducible exact Below.refl _ _) | (with_reducible refine Blk.drewN ?_ _) | (with_reducible refine RowIn.drewN ?_ _) | (with_reducible refine below_drewN ?_ _) | (with_reducible refine Blk.drew ?_) | (with_reducible refine RowIn.drew ?_) | (with_reducible refine Below.drew ?_) | (with_reducible refine Blk.new' ?_ ?_ <;> first | (with_reducible rfl) | (simp; done)) | (with_reducible refine Blk.alloc ?_ _) | (with_reducible refine RowIn.alloc ?_ _) | (with_reducible refine Below.alloc ?_ ?_ _) | (with_reducible apply Blk.set') | (with_reducible refine Blk.far' ?_ ?_ _) | (with_reducible refine RowIn.far' ?_ ?_ _) | (with_reducible refine Below.far' ?_ ?_ _) | rfl | omega | go_size)


end Go.Proofs.YtpohaikbbfochaaDoor

/-
  Contract of Read of Rice codes.
-/
namespace Go.Proofs.YtpohaikbbfochaaDoor
open Go.RowKit Cad Cad.Bit Cad.Code
set_option linter.unusedVariables false
set_option linter.unusedSimpArgs false

/-- What Read returns: the number, the index behind it, the error. -/
def rrR (bs : List Bool) (p k : Int) : Int × Int × Int :=
  if k < 0 ∨ 24 < k then (0, 0, 2) else if p < 0 then (0, 0, 2) else match readR (bs.drop p.toNat) k.toNat with
    | .ok v n => ((v : Nat), p + (n : Nat), 0)
    | .err e => (0, 0, (e : Nat))
theorem rice_or {q k y : Nat} (hq : q < 48) (hk : k ≤ 24) (hy : y < 2 ^ k) : bits .or .u32 (((q : Int) * 2 ^ k) % 4294967296) (y : Int) = ((q * 2 ^ k + y : Nat) : Int) := by
  have h24 : 2 ^ k ≤ 16777216 := Nat.le_trans (Nat.pow_le_pow_right (by omega) hk) (by decide)
  have h1 : q * 2 ^ k ≤ 47 * 16777216 := Nat.mul_le_mul (by omega) h24
  have e1 : ((q : Int) * 2 ^ k) % 4294967296 = ((q * 2 ^ k : Nat) : Int) := by
    rw [pow_cast, ← Int.natCast_mul]; exact Int.emod_eq_of_lt (Int.natCast_nonneg _) (by omega)
  rw [e1, u32_or_nat _ _ (by omega) (by omega), nat_join k _ _ (Nat.mul_mod_left _ _) hy]
theorem bval_take_lt (l : List Bool) (n : Nat) : bval (l.take n) < 2 ^ n :=
  Nat.lt_of_lt_of_le (bval_lt _) (Nat.pow_le_pow_right (by omega) (List.length_take_le n l))

set_option maxRecDepth 100000 in
set_option maxHeartbeats 4000000 in
theorem rread_ret (A : Option Addr) (m c : Nat) (bs : List Bool) (p k : Int) (w : World) (ha : Row .u8 w A m (pack bs)) (hc : m ≤ c ∧ c ≤ 9223372036854775807) (hl : bs.length ≤ 330000) (hp : -9223372036854775808 ≤ p ∧ p ≤ 9223372036854775807) (hk0 : -9223372036854775808 ≤ k ∧ k ≤ 9223372036854775807) (ht : Tab w) :
    Calls Tryd.prog 74 #[.agg #[.slice A m c, .int .i64 ((bs.length : Nat) : Int)], .int .i64 p, .int .i64 k] w fun e w' => e = .returned (.tuple #[.int .u32 (rrR bs p k).1, .int .i64 (rrR bs p k).2.1, .int .i64 (rrR bs p k).2.2]) ∧ Below w.heap.size w w' := by
  have hri := ha.rowIn
  have hti : RowIn .u8 w 0 w.heap.size (some ⟨0, 0, none⟩) 64 dbTab := ht.rowIn
  by_cases h1 : k < 0
  · have HR : Hid (rrR bs p k = (0, 0, 2)) := by unfold rrR; rw [if_pos (Or.inl h1)]; rfl
    go_enter Tryd.func74, Tryd.ntmps74
    go_wp2_with fail
    refine (bcheck_ok A m c bs _ (by exact RowIn.row (lo := 0) (hi := w.heap.size) (by repeat' (first | (with_reducible assumption) | (with_reducible exact Below.refl _ _) | (with_reducible refine Blk.drewN ?_ _) | (with_reducible refine RowIn.drewN ?_ _) | (with_reducible refine below_drewN ?_ _) | (with_reducible refine Blk.drew ?_) | (with_reducible refine RowIn.drew ?_) | (with_reducible refine Below.drew ?_) | (with_reducible refine Blk.new' ?_ ?_ <;> first | (with_reducible rfl) | (simp; done)) | (with_reducible refine Blk.alloc ?_ _) | (with_reducible refine RowIn.alloc ?_ _) | (with_reducible refine Below.alloc ?_ ?_ _) | (with_reducible apply Blk.set') | (with_reducible apply Blk.far') | (with_reducible refine RowIn.far' ?_ ?_ _) | (with_reducible refine Below.far' ?_ ?_ _) | rfl | omega | go_size))) (by omega) hl).mono ?_
    rintro e w1 ⟨rfl, b1⟩
    have s1 := b1.size
    try simp only [World.size_alloc, World.size_setCell, World.size_drew, size_drewN] at s1
    obtain ⟨zb_1, rb_1, rt_1, bb_1⟩ : Blk w1 (w.heap.size) 26 [.slice A m c, .int .i64 ((bs.length : Nat) : Int)] ∧ RowIn .u8 w1 (0) (w.heap.size) A m (pack bs) ∧ RowIn .u8 w1 (0) (w.heap.size) (some ⟨0, 0, none⟩) 64 dbTab ∧ Below w.heap.size w w1 := by
      refine ⟨?_, ?_, ?_, ?_⟩
      all_goals repeat' (first | (with_reducible assumption) | (with_reducible exact Below.refl _ _) | (with_reducible refine Blk.after ?_ b1) | (with_reducible refine RowIn.belowS ?_ b1) | (with_reducible refine Below.after ?_ b1 ?_) | (with_reducible refine Blk.drewN ?_ _) | (with_reducible refine RowIn.drewN ?_ _) | (with_reducible refine below_drewN ?_ _) | (with_reducible refine Blk.drew ?_) | (with_reducible refine RowIn.drew ?_) | (with_reducible refine Below.drew ?_) | (with_reducible refine Blk.new' ?_ ?_ <;> first | (with_reducible rfl) | (simp; done)) | (with_reducible refine Blk.alloc ?_ _) | (with_reducible refine RowIn.alloc ?_ _) | (with_reducible refine Below.alloc ?_ ?_ _) | (with_reducible apply Blk.set') | (with_reducible apply Blk.far') | (with_reducible refine RowIn.far' ?_ ?_ _) | (with_reducible refine Below.far' ?_ ?_ _) | rfl | omega | go_size)
    clear b1
    have kb_1 := zb_1.cell; have fb_1 := zb_1.frozen; have lb_1 := zb_1.lt
    go_wp2
    go_ret3
    refine ⟨by rw [HR.out]; first | rfl | go_num, ?_⟩
    repeat' (first | (with_reducible assumption) | (with_reducible exact Below.refl _ _) | (with_reducible refine Blk.drewN ?_ _) | (with_reducible refine RowIn.drewN ?_ _) | (with_reducible refine below_drewN ?_ _) | (with_reducible refine Blk.drew ?_) | (with_reducible refine RowIn.drew ?_) | (with_reducible refine Below.drew ?_) | (with_reducible refine Blk.new' ?_ ?_ <;> first | (with_reducible rfl) | (simp; done)) | (with_reducible refine Blk.alloc ?_ _) | (with_reducible refine RowIn.alloc ?_ _) | (with_reducible refine Below.alloc ?_ ?_ _) | (with_reducible apply Blk.set') | (with_reducible apply Blk.far') | (with_reducible refine RowIn.far' ?_ ?_ _) | (with_reducible refine Below.far' ?_ ?_ _) | rfl | omega | go_size)
  by_cases h2 : 24 < k
  · have HR : Hid (rrR bs p k = (0, 0, 2)) := by unfold rrR; rw [if_pos (Or.inr h2)]; rfl
    go_enter Tryd.func74, Tryd.ntmps74
    go_wp2_with fail
    refine (bcheck_ok A m c bs _ (by exact RowIn.row (lo := 0) (hi := w.heap.size) (by repeat' (first | (with_reducible assumption) | (with_reducible exact Below.refl _ _) | (with_reducible refine Blk.drewN ?_ _) | (with_reducible refine RowIn.drewN ?_ _) | (with_reducible refine below_drewN ?_ _) | (with_reducible refine Blk.drew ?_) | (with_reducible refine RowIn.drew ?_) | (with_reducible refine Below.drew ?_) | (with_reducible refine Blk.new' ?_ ?_ <;> first | (with_reducible rfl) | (simp; done)) | (with_reducible refine Blk.alloc ?_ _) | (with_reducible refine RowIn.alloc ?_ _) | (with_reducible refine Below.alloc ?_ ?_ _) | (with_reducible apply Blk.set') | (with_reducible apply Blk.far') | (with_reducible refine RowIn.far' ?_ ?_ _) | (with_reducible refine Below.far' ?_ ?_ _) | rfl | omega | go_size))) (by omega) hl).mono ?_
    rintro e w1 ⟨rfl, b1⟩
    have s1 := b1.size
    try simp only [World.size_alloc, World.size_setCell, World.size_drew, size_drewN] at s1
    obtain ⟨zb_1, rb_1, rt_1, bb_1⟩ : Blk w1 (w.heap.size) 26 [.slice A m c, .int .i64 ((bs.length : Nat) : Int)] ∧ RowIn .u8 w1 (0) (w.heap.size) A m (pack bs) ∧ RowIn .u8 w1 (0) (w.heap.size) (some ⟨0, 0, none⟩) 64 dbTab ∧ Below w.heap.size w w1 := by
      refine ⟨?_, ?_, ?_, ?_⟩
      all_goals repeat' (first | (with_reducible assumption) | (with_reducible exact Below.refl _ _) | (with_reducible refine Blk.after ?_ b1) | (with_reducible refine RowIn.belowS ?_ b1) | (with_reducible refine Below.after ?_ b1 ?_) | (with_reducible refine Blk.drewN ?_ _) | (with_reducible refine RowIn.drewN ?_ _) | (with_reducible refine below_drewN ?_ _) | (with_reducible refine Blk.drew ?_) | (with_reducible refine RowIn.drew ?_) | (with_reducible refine Below.drew ?_) | (with_reducible refine Blk.new' ?_ ?_ <;> first | (with_reducible rfl) | (simp; done)) | (with_reducible refine Blk.alloc ?_ _) | (with_reducible refine RowIn.alloc ?_ _) | (with_reducible refine Below.alloc ?_ ?_ _) | (with_reducible apply Blk.set') | (with_reducible apply Blk.far') | (with_reducible refine RowIn.far' ?_ ?_ _) | (with_reducible refine Below.far' ?_ ?_ _) | rfl | omega | go_size)
    clear b1
    have kb_1 := zb_1.cell; have fb_1 := zb_1.frozen; have lb_1 := zb_1.lt
    go_wp2
    go_ret3
    refine ⟨by rw [HR.out]; first | rfl | go_num, ?_⟩
    repeat' (first | (with_reducible assumption) | (with_reducible exact Below.refl _ _) | (with_reducible refine Blk.drewN ?_ _) | (with_reducible refine RowIn.drewN ?_ _) | (with_reducible refine below_drewN ?_ _) | (with_reducible refine Blk.drew ?_) | (with_reducible refine RowIn.drew ?_) | (with_reducible refine Below.drew ?_) | (with_reducible refine Blk.new' ?_ ?_ <;> first | (with_reducible rfl) | (simp; done)) | (with_reducible refine Blk.alloc ?_ _) | (with_reducible refine RowIn.alloc ?_ _) | (with_reducible refine Below.alloc ?_ ?_ _) | (with_reducible apply Blk.set') | (with_reducible apply Blk.far') | (with_reducible refine RowIn.far' ?_ ?_ _) | (with_reducible refine Below.far' ?_ ?_ _) | rfl | omega | go_size)
  obtain ⟨k, rfl⟩ := Int.eq_ofNat_of_zero_le (by omega : 0 ≤ k)
  have hk : k ≤ 24 := by omega
  by_cases h3 : p < 0
  · have HR : Hid (rrR bs p (k : Nat) = (0, 0, 2)) := by unfold rrR; rw [if_neg (by omega), if_pos h3]; rfl
    have hu : urR bs p = (0, 0, 2) := by unfold urR; rw [if_pos h3]
    have HU := Lib.hid hu
    clear hu
    go_enter Tryd.func74, Tryd.ntmps74
    go_wp2_with fail
    refine (bcheck_ok A m c bs _ (by exact RowIn.row (lo := 0) (hi := w.heap.size) (by repeat' (first | (with_reducible assumption) | (with_reducible exact Below.refl _ _) | (with_reducible refine Blk.drewN ?_ _) | (with_reducible refine RowIn.drewN ?_ _) | (with_reducible refine below_drewN ?_ _) | (with_reducible refine Blk.drew ?_) | (with_reducible refine RowIn.drew ?_) | (with_reducible refine Below.drew ?_) | (with_reducible refine Blk.new' ?_ ?_ <;> first | (with_reducible rfl) | (simp; done)) | (with_reducible refine Blk.alloc ?_ _) | (with_reducible refine RowIn.alloc ?_ _) | (with_reducible refine Below.alloc ?_ ?_ _) | (with_reducible apply Blk.set') | (with_reducible apply Blk.far') | (with_reducible refine RowIn.far' ?_ ?_ _) | (with_reducible refine Below.far' ?_ ?_ _) | rfl | omega | go_size))) (by omega) hl).mono ?_
    rintro e w1 ⟨rfl, b1⟩
    have s1 := b1.size
    try simp only [World.size_alloc, World.size_setCell, World.size_drew, size_drewN] at s1
    obtain ⟨zb_1, rb_1, rt_1, bb_1⟩ : Blk w1 (w.heap.size) 26 [.slice A m c, .int .i64 ((bs.length : Nat) : Int)] ∧ RowIn .u8 w1 (0) (w.heap.size) A m (pack bs) ∧ RowIn .u8 w1 (0) (w.heap.size) (some ⟨0, 0, none⟩) 64 dbTab ∧ Below w.heap.size w w1 := by
      refine ⟨?_, ?_, ?_, ?_⟩
      all_goals repeat' (first | (with_reducible assumption) | (with_reducible exact Below.refl _ _) | (with_reducible refine Blk.after ?_ b1) | (with_reducible refine RowIn.belowS ?_ b1) | (with_reducible refine Below.after ?_ b1 ?_) | (with_reducible refine Blk.drewN ?_ _) | (with_reducible refine RowIn.drewN ?_ _) | (with_reducible refine below_drewN ?_ _) | (with_reducible refine Blk.drew ?_) | (with_reducible refine RowIn.drew ?_) | (with_reducible refine Below.drew ?_) | (with_reducible refine Blk.new' ?_ ?_ <;> first | (with_reducible rfl) | (simp; done)) | (with_reducible refine Blk.alloc ?_ _) | (with_reducible refine RowIn.alloc ?_ _) | (with_reducible refine Below.alloc ?_ ?_ _) | (with_reducible apply Blk.set') | (with_reducible apply Blk.far') | (with_reducible refine RowIn.far' ?_ ?_ _) | (with_reducible refine Below.far' ?_ ?_ _) | rfl | omega | go_size)
    clear b1
    have kb_1 := zb_1.cell; have fb_1 := zb_1.frozen; have lb_1 := zb_1.lt
    go_wp2_with fail
    have hcl := uread_ret A m c bs p _ (by exact RowIn.row (lo := 0) (hi := w.heap.size) (by repeat' (first | (with_reducible assumption) | (with_reducible exact Below.refl _ _) | (with_reducible refine Blk.drewN ?_ _) | (with_reducible refine RowIn.drewN ?_ _) | (with_reducible refine below_drewN ?_ _) | (with_reducible refine Blk.drew ?_) | (with_reducible refine RowIn.drew ?_) | (with_reducible refine Below.drew ?_) | (with_reducible refine Blk.new' ?_ ?_ <;> first | (with_reducible rfl) | (simp; done)) | (with_reducible refine Blk.alloc ?_ _) | (with_reducible refine RowIn.alloc ?_ _) | (with_reducible refine Below.alloc ?_ ?_ _) | (with_reducible apply Blk.set') | (with_reducible apply Blk.far') | (with_reducible refine RowIn.far' ?_ ?_ _) | (with_reducible refine Below.far' ?_ ?_ _) | rfl | omega | go_size))) hc hl hp (by exact RowIn.row (lo := 0) (hi := w.heap.size) (by repeat' (first | (with_reducible assumption) | (with_reducible exact Below.refl _ _) | (with_reducible refine Blk.drewN ?_ _) | (with_reducible refine RowIn.drewN ?_ _) | (with_reducible refine below_drewN ?_ _) | (with_reducible refine Blk.drew ?_) | (with_reducible refine RowIn.drew ?_) | (with_reducible refine Below.drew ?_) | (with_reducible refine Blk.new' ?_ ?_ <;> first | (with_reducible rfl) | (simp; done)) | (with_reducible refine Blk.alloc ?_ _) | (with_reducible refine RowIn.alloc ?_ _) | (with_reducible refine Below.alloc ?_ ?_ _) | (with_reducible apply Blk.set') | (with_reducible apply Blk.far') | (with_reducible refine RowIn.far' ?_ ?_ _) | (with_reducible refine Below.far' ?_ ?_ _) | rfl | omega | go_size)))
    rw [HU.out] at hcl
    replace hcl := Lib.hid hcl
    refine (hcl.out).mono ?_
    rintro e w2 ⟨rfl, b2⟩
    have s2 := b2.size
    try simp only [World.size_alloc, World.size_setCell, World.size_drew, size_drewN] at s2
    obtain ⟨zb_2, rb_2, rt_2, bb_2⟩ : Blk w2 (w.heap.size) 26 [.slice A m c, .int .i64 ((bs.length : Nat) : Int)] ∧ RowIn .u8 w2 (0) (w.heap.size) A m (pack bs) ∧ RowIn .u8 w2 (0) (w.heap.size) (some ⟨0, 0, none⟩) 64 dbTab ∧ Below w.heap.size w w2 := by
      refine ⟨?_, ?_, ?_, ?_⟩
      all_goals repeat' (first | (with_reducible assumption) | (with_reducible exact Below.refl _ _) | (with_reducible refine Blk.after ?_ b2) | (with_reducible refine RowIn.belowS ?_ b2) | (with_reducible refine Below.after ?_ b2 ?_) | (with_reducible refine Blk.drewN ?_ _) | (with_reducible refine RowIn.drewN ?_ _) | (with_reducible refine below_drewN ?_ _) | (with_reducible refine Blk.drew ?_) | (with_reducible refine RowIn.drew ?_) | (with_reducible refine Below.drew ?_) | (with_reducible refine Blk.new' ?_ ?_ <;> first | (with_reducible rfl) | (simp; done)) | (with_reducible refine Blk.alloc ?_ _) | (with_reducible refine RowIn.alloc ?_ _) | (with_reducible refine Below.alloc ?_ ?_ _) | (with_reducible apply Blk.set') | (with_reducible apply Blk.far') | (with_reducible refine RowIn.far' ?_ ?_ _) | (with_reducible refine Below.far' ?_ ?_ _) | rfl | omega | go_size)
    clear zb_1 rb_1 rt_1 bb_1 kb_1 fb_1 lb_1 b2
    have kb_2 := zb_2.cell; have fb_2 := zb_2.frozen; have lb_2 := zb_2.lt
    clear hcl
    go_wp2
    go_ret3
    refine ⟨by rw [HR.out]; first | rfl | go_num, ?_⟩
    repeat' (first | (with_reducible assumption) | (with_reducible exact Below.refl _ _) | (with_reducible refine Blk.drewN ?_ _) | (with_reducible refine RowIn.drewN ?_ _) | (with_reducible refine below_drewN ?_ _) | (with_reducible refine Blk.drew ?_) | (with_reducible refine RowIn.drew ?_) | (with_reducible refine Below.drew ?_) | (with_reducible refine Blk.new' ?_ ?_ <;> first | (with_reducible rfl) | (simp; done)) | (with_reducible refine Blk.alloc ?_ _) | (with_reducible refine RowIn.alloc ?_ _) | (with_reducible refine Below.alloc ?_ ?_ _) | (with_reducible apply Blk.set') | (with_reducible apply Blk.far') | (with_reducible refine RowIn.far' ?_ ?_ _) | (with_reducible refine Below.far' ?_ ?_ _) | rfl | omega | go_size)
  obtain ⟨i, rfl⟩ := Int.eq_ofNat_of_zero_le (by omega : 0 ≤ p)
  have HR0 : Hid (rrR bs (i : Nat) (k : Nat) = match readR (bs.drop i) k with | .ok v n => (((v : Nat) : Int), (i : Int) + ((n : Nat) : Int), 0) | .err e => (0, 0, ((e : Nat) : Int))) := by unfold rrR; rw [if_neg (by omega), if_neg h3]; rfl
  clear h1 h2 h3
  cases hu : readU (bs.drop i) with
  | err e =>
    obtain ⟨rfl, _, _⟩ := readU_err hu
    have HR : Hid (rrR bs (i : Nat) (k : Nat) = (0, 0, 24)) := by rw [HR0.out]; unfold readR; rw [hu]; rfl
    have HU := Lib.hid hu
    clear hu
    go_enter Tryd.func74, Tryd.ntmps74
    go_wp2_with fail
    refine (bcheck_ok A m c bs _ (by exact RowIn.row (lo := 0) (hi := w.heap.size) (by repeat' (first | (with_reducible assumption) | (with_reducible exact Below.refl _ _) | (with_reducible refine Blk.drewN ?_ _) | (with_reducible refine RowIn.drewN ?_ _) | (with_reducible refine below_drewN ?_ _) | (with_reducible refine Blk.drew ?_) | (with_reducible refine RowIn.drew ?_) | (with_reducible refine Below.drew ?_) | (with_reducible refine Blk.new' ?_ ?_ <;> first | (with_reducible rfl) | (simp; done)) | (with_reducible refine Blk.alloc ?_ _) | (with_reducible refine RowIn.alloc ?_ _) | (with_reducible refine Below.alloc ?_ ?_ _) | (with_reducible apply Blk.set') | (with_reducible apply Blk.far') | (with_reducible refine RowIn.far' ?_ ?_ _) | (with_reducible refine Below.far' ?_ ?_ _) | rfl | omega | go_size))) (by omega) hl).mono ?_
    rintro e w1 ⟨rfl, b1⟩
    have s1 := b1.size
    try simp only [World.size_alloc, World.size_setCell, World.size_drew, size_drewN] at s1
    obtain ⟨zb_1, rb_1, rt_1, bb_1⟩ : Blk w1 (w.heap.size) 26 [.slice A m c, .int .i64 ((bs.length : Nat) : Int)] ∧ RowIn .u8 w1 (0) (w.heap.size) A m (pack bs) ∧ RowIn .u8 w1 (0) (w.heap.size) (some ⟨0, 0, none⟩) 64 dbTab ∧ Below w.heap.size w w1 := by
      refine ⟨?_, ?_, ?_, ?_⟩
      all_goals repeat' (first | (with_reducible assumption) | (with_reducible exact Below.refl _ _) | (with_reducible refine Blk.after ?_ b1) | (with_reducible refine RowIn.belowS ?_ b1) | (with_reducible refine Below.after ?_ b1 ?_) | (with_reducible refine Blk.drewN ?_ _) | (with_reducible refine RowIn.drewN ?_ _) | (with_reducible refine below_drewN ?_ _) | (with_reducible refine Blk.drew ?_) | (with_reducible refine RowIn.drew ?_) | (with_reducible refine Below.drew ?_) | (with_reducible refine Blk.new' ?_ ?_ <;> first | (with_reducible rfl) | (simp; done)) | (with_reducible refine Blk.alloc ?_ _) | (with_reducible refine RowIn.alloc ?_ _) | (with_reducible refine Below.alloc ?_ ?_ _) | (with_reducible apply Blk.set') | (with_reducible apply Blk.far') | (with_reducible refine RowIn.far' ?_ ?_ _) | (with_reducible refine Below.far' ?_ ?_ _) | rfl | omega | go_size)
    clear b1
    have kb_1 := zb_1.cell; have fb_1 := zb_1.frozen; have lb_1 := zb_1.lt
    go_wp2_with fail
    refine (uread_short A m c bs (i : Nat) 24 _ (by exact RowIn.row (lo := 0) (hi := w.heap.size) (by repeat' (first | (with_reducible assumption) | (with_reducible exact Below.refl _ _) | (with_reducible refine Blk.drewN ?_ _) | (with_reducible refine RowIn.drewN ?_ _) | (with_reducible refine below_drewN ?_ _) | (with_reducible refine Blk.drew ?_) | (with_reducible refine RowIn.drew ?_) | (with_reducible refine Below.drew ?_) | (with_reducible refine Blk.new' ?_ ?_ <;> first | (with_reducible rfl) | (simp; done)) | (with_reducible refine Blk.alloc ?_ _) | (with_reducible refine RowIn.alloc ?_ _) | (with_reducible refine Below.alloc ?_ ?_ _) | (with_reducible apply Blk.set') | (with_reducible apply Blk.far') | (with_reducible refine RowIn.far' ?_ ?_ _) | (with_reducible refine Below.far' ?_ ?_ _) | rfl | omega | go_size))) hc hl (by omega) (by rw [Int.toNat_natCast]; exact HU.out) (by exact RowIn.row (lo := 0) (hi := w.heap.size) (by repeat' (first | (with_reducible assumption) | (with_reducible exact Below.refl _ _) | (with_reducible refine Blk.drewN ?_ _) | (with_reducible refine RowIn.drewN ?_ _) | (with_reducible refine below_drewN ?_ _) | (with_reducible refine Blk.drew ?_) | (with_reducible refine RowIn.drew ?_) | (with_reducible refine Below.drew ?_) | (with_reducible refine Blk.new' ?_ ?_ <;> first | (with_reducible rfl) | (simp; done)) | (with_reducible refine Blk.alloc ?_ _) | (with_reducible refine RowIn.alloc ?_ _) | (with_reducible refine Below.alloc ?_ ?_ _) | (with_reducible apply Blk.set') | (with_reducible apply Blk.far') | (with_reducible refine RowIn.far' ?_ ?_ _) | (with_reducible refine Below.far' ?_ ?_ _) | rfl | omega | go_size)))).mono ?_
    rintro e w2 ⟨rfl, b2⟩
    have s2 := b2.size
    try simp only [World.size_alloc, World.size_setCell, World.size_drew, size_drewN] at s2
    obtain ⟨zb_2, rb_2, rt_2, bb_2⟩ : Blk w2 (w.heap.size) 26 [.slice A m c, .int .i64 ((bs.length : Nat) : Int)] ∧ RowIn .u8 w2 (0) (w.heap.size) A m (pack bs) ∧ RowIn .u8 w2 (0) (w.heap.size) (some ⟨0, 0, none⟩) 64 dbTab ∧ Below w.heap.size w w2 := by
      refine ⟨?_, ?_, ?_, ?_⟩
      all_goals repeat' (first | (with_reducible assumption) | (with_reducible exact Below.refl _ _) | (with_reducible refine Blk.after ?_ b2) | (with_reducible refine RowIn.belowS ?_ b2) | (with_reducible refine Below.after ?_ b2 ?_) | (with_reducible refine Blk.drewN ?_ _) | (with_reducible refine RowIn.drewN ?_ _) | (with_reducible refine below_drewN ?_ _) | (with_reducible refine Blk.drew ?_) | (with_reducible refine RowIn.drew ?_) | (with_reducible refine Below.drew ?_) | (with_reducible refine Blk.new' ?_ ?_ <;> first | (with_reducible rfl) | (simp; done)) | (with_reducible refine Blk.alloc ?_ _) | (with_reducible refine RowIn.alloc ?_ _) | (with_reducible refine Below.alloc ?_ ?_ _) | (with_reducible apply Blk.set') | (with_reducible apply Blk.far') | (with_reducible refine RowIn.far' ?_ ?_ _) | (with_reducible refine Below.far' ?_ ?_ _) | rfl | omega | go_size)
    clear zb_1 rb_1 rt_1 bb_1 kb_1 fb_1 lb_1 b2
    have kb_2 := zb_2.cell; have fb_2 := zb_2.frozen; have lb_2 := zb_2.lt
    go_wp2
    go_ret3
    refine ⟨by rw [HR.out]; first | rfl | go_num, ?_⟩
    repeat' (first | (with_reducible assumption) | (with_reducible exact Below.refl _ _) | (with_reducible refine Blk.drewN ?_ _) | (with_reducible refine RowIn.drewN ?_ _) | (with_reducible refine below_drewN ?_ _) | (with_reducible refine Blk.drew ?_) | (with_reducible refine RowIn.drew ?_) | (with_reducible refine Below.drew ?_) | (with_reducible refine Blk.new' ?_ ?_ <;> first | (with_reducible rfl) | (simp; done)) | (with_reducible refine Blk.alloc ?_ _) | (with_reducible refine RowIn.alloc ?_ _) | (with_reducible refine Below.alloc ?_ ?_ _) | (with_reducible apply Blk.set') | (with_reducible apply Blk.far') | (with_reducible refine RowIn.far' ?_ ?_ _) | (with_reducible refine Below.far' ?_ ?_ _) | rfl | omega | go_size)
  | ok q u =>
    obtain ⟨hq, hur, t, ht2⟩ := readU_inv hu
    have hul : u + i ≤ bs.length := by
      have h := congrArg List.length ht2
      rw [List.length_drop, List.length_append, run_len hq, ← hur] at h
      have : 1 ≤ u := by rw [hur]; unfold runLen; omega
      omega
    have hdl : (bs.drop i).length = bs.length - i := List.length_drop ..
    have HR1 : Hid (readR (bs.drop i) k = if bs.length - i - u < restLen q k then .err 24 else if q < 48 then .ok (q * 2 ^ k + bval ((bs.drop (i + u)).take (restLen q k))) (u + restLen q k) else if bval ((bs.drop (i + u)).take (restLen q k)) / 2 ^ k < 48 then .err 12 else .ok (bval ((bs.drop (i + u)).take (restLen q k))) (u + restLen q k)) := by
      unfold readR; rw [hu]; dsimp only; rw [hdl, List.drop_drop]; exact Lib.hid rfl
    have HU := Lib.hid hu
    clear hu ht2 hdl hur
    obtain ⟨z, hz⟩ : ∃ z, z = i + u := ⟨_, rfl⟩
    rw [← hz] at HR1
    have hzb : z ≤ bs.length := by omega
    have HZ := Lib.hid hz
    obtain ⟨y, HY⟩ : ∃ y, Hid (y = bval ((bs.drop z).take (restLen q k))) := ⟨_, Lib.hid rfl⟩
    rw [← HY.out] at HR1
    by_cases h48 : q = 48
    · have hrl : restLen q k = 32 := by unfold restLen; rw [if_pos h48]
      rw [hrl] at HR1 HY
      clear hrl
      subst h48
      by_cases h5 : bs.length - i - u < 32
      · have HR : Hid (rrR bs (i : Nat) (k : Nat) = (0, 0, 24)) := by rw [HR0.out, HR1.out, if_pos h5]; rfl
        have HG : Hid (getR bs (z : Nat) (32 : Int) = (0, 24)) := by unfold getR; rw [if_neg (by omega), if_pos (by omega)]; rfl
        clear hz h5
        go_enter Tryd.func74, Tryd.ntmps74
        go_wp2_with fail
        refine (bcheck_ok A m c bs _ (by exact RowIn.row (lo := 0) (hi := w.heap.size) (by repeat' (first | (with_reducible assumption) | (with_reducible exact Below.refl _ _) | (with_reducible refine Blk.drewN ?_ _) | (with_reducible refine RowIn.drewN ?_ _) | (with_reducible refine below_drewN ?_ _) | (with_reducible refine Blk.drew ?_) | (with_reducible refine RowIn.drew ?_) | (with_reducible refine Below.drew ?_) | (with_reducible refine Blk.new' ?_ ?_ <;> first | (with_reducible rfl) | (simp; done)) | (with_reducible refine Blk.alloc ?_ _) | (with_reducible refine RowIn.alloc ?_ _) | (with_reducible refine Below.alloc ?_ ?_ _) | (with_reducible apply Blk.set') | (with_reducible apply Blk.far') | (with_reducible refine RowIn.far' ?_ ?_ _) | (with_reducible refine Below.far' ?_ ?_ _) | rfl | omega | go_size))) (by omega) hl).mono ?_
        rintro e w1 ⟨rfl, b1⟩
        have s1 := b1.size
        try simp only [World.size_alloc, World.size_setCell, World.size_drew, size_drewN] at s1
        obtain ⟨zb_1, rb_1, rt_1, bb_1⟩ : Blk w1 (w.heap.size) 26 [.slice A m c, .int .i64 ((bs.length : Nat) : Int)] ∧ RowIn .u8 w1 (0) (w.heap.size) A m (pack bs) ∧ RowIn .u8 w1 (0) (w.heap.size) (some ⟨0, 0, none⟩) 64 dbTab ∧ Below w.heap.size w w1 := by
          refine ⟨?_, ?_, ?_, ?_⟩
          all_goals repeat' (first | (with_reducible assumption) | (with_reducible exact Below.refl _ _) | (with_reducible refine Blk.after ?_ b1) | (with_reducible refine RowIn.belowS ?_ b1) | (with_reducible refine Below.after ?_ b1 ?_) | (with_reducible refine Blk.drewN ?_ _) | (with_reducible refine RowIn.drewN ?_ _) | (with_reducible refine below_drewN ?_ _) | (with_reducible refine Blk.drew ?_) | (with_reducible refine RowIn.drew ?_) | (with_reducible refine Below.drew ?_) | (with_reducible refine Blk.new' ?_ ?_ <;> first | (with_reducible rfl) | (simp; done)) | (with_reducible refine Blk.alloc ?_ _) | (with_reducible refine RowIn.alloc ?_ _) | (with_reducible refine Below.alloc ?_ ?_ _) | (with_reducible apply Blk.set') | (with_reducible apply Blk.far') | (with_reducible refine RowIn.far' ?_ ?_ _) | (with_reducible refine Below.far' ?_ ?_ _) | rfl | omega | go_size)
        clear b1
        have kb_1 := zb_1.cell; have fb_1 := zb_1.frozen; have lb_1 := zb_1.lt
        go_wp2_with fail
        refine (uread_ok A m c bs (i : Nat) 48 u _ (by exact RowIn.row (lo := 0) (hi := w.heap.size) (by repeat' (first | (with_reducible assumption) | (with_reducible exact Below.refl _ _) | (with_reducible refine Blk.drewN ?_ _) | (with_reducible refine RowIn.drewN ?_ _) | (with_reducible refine below_drewN ?_ _) | (with_reducible refine Blk.drew ?_) | (with_reducible refine RowIn.drew ?_) | (with_reducible refine Below.drew ?_) | (with_reducible refine Blk.new' ?_ ?_ <;> first | (with_reducible rfl) | (simp; done)) | (with_reducible refine Blk.alloc ?_ _) | (with_reducible refine RowIn.alloc ?_ _) | (with_reducible refine Below.alloc ?_ ?_ _) | (with_reducible apply Blk.set') | (with_reducible apply Blk.far') | (with_reducible refine RowIn.far' ?_ ?_ _) | (with_reducible refine Below.far' ?_ ?_ _) | rfl | omega | go_size))) hc hl (by omega) (by rw [Int.toNat_natCast]; exact HU.out) (by exact RowIn.row (lo := 0) (hi := w.heap.size) (by repeat' (first | (with_reducible assumption) | (with_reducible exact Below.refl _ _) | (with_reducible refine Blk.drewN ?_ _) | (with_reducible refine RowIn.drewN ?_ _) | (with_reducible refine below_drewN ?_ _) | (with_reducible refine Blk.drew ?_) | (with_reducible refine RowIn.drew ?_) | (with_reducible refine Below.drew ?_) | (with_reducible refine Blk.new' ?_ ?_ <;> first | (with_reducible rfl) | (simp; done)) | (with_reducible refine Blk.alloc ?_ _) | (with_reducible refine RowIn.alloc ?_ _) | (with_reducible refine Below.alloc ?_ ?_ _) | (with_reducible apply Blk.set') | (with_reducible apply Blk.far') | (with_reducible refine RowIn.far' ?_ ?_ _) | (with_reducible refine Below.far' ?_ ?_ _) | rfl | omega | go_size)))).mono ?_
        rintro e w2 ⟨z2, rfl, HZ2, b2⟩
        have s2 := b2.size
        try simp only [World.size_alloc, World.size_setCell, World.size_drew, size_drewN] at s2
        obtain ⟨zb_2, rb_2, rt_2, bb_2⟩ : Blk w2 (w.heap.size) 26 [.slice A m c, .int .i64 ((bs.length : Nat) : Int)] ∧ RowIn .u8 w2 (0) (w.heap.size) A m (pack bs) ∧ RowIn .u8 w2 (0) (w.heap.size) (some ⟨0, 0, none⟩) 64 dbTab ∧ Below w.heap.size w w2 := by
          refine ⟨?_, ?_, ?_, ?_⟩
          all_goals repeat' (first | (with_reducible assumption) | (with_reducible exact Below.refl _ _) | (with_reducible refine Blk.after ?_ b2) | (with_reducible refine RowIn.belowS ?_ b2) | (with_reducible refine Below.after ?_ b2 ?_) | (with_reducible refine Blk.drewN ?_ _) | (with_reducible refine RowIn.drewN ?_ _) | (with_reducible refine below_drewN ?_ _) | (with_reducible refine Blk.drew ?_) | (with_reducible refine RowIn.drew ?_) | (with_reducible refine Below.drew ?_) | (with_reducible refine Blk.new' ?_ ?_ <;> first | (with_reducible rfl) | (simp; done)) | (with_reducible refine Blk.alloc ?_ _) | (with_reducible refine RowIn.alloc ?_ _) | (with_reducible refine Below.alloc ?_ ?_ _) | (with_reducible apply Blk.set') | (with_reducible apply Blk.far') | (with_reducible refine RowIn.far' ?_ ?_ _) | (with_reducible refine Below.far' ?_ ?_ _) | rfl | omega | go_size)
        clear zb_1 rb_1 rt_1 bb_1 kb_1 fb_1 lb_1 b2
        have kb_2 := zb_2.cell; have fb_2 := zb_2.frozen; have lb_2 := zb_2.lt
        obtain rfl : z = z2 := by rw [HZ.out, HZ2.out, Int.toNat_natCast]
        clear HZ2
        go_wp2_with fail
        have hcl := bget_ret A m c bs (z : Nat) (32 : Int) w2 rb_2.row hc hl (by omega) (by omega)
        rw [HG.out] at hcl
        replace hcl := Lib.hid hcl
        refine (hcl.out).mono ?_
        rintro e w3 ⟨rfl, b3⟩
        have s3 := b3.size
        try simp only [World.size_alloc, World.size_setCell, World.size_drew, size_drewN] at s3
        obtain ⟨zb_3, rb_3, rt_3, bb_3⟩ : Blk w3 (w.heap.size) 26 [.slice A m c, .int .i64 ((bs.length : Nat) : Int)] ∧ RowIn .u8 w3 (0) (w.heap.size) A m (pack bs) ∧ RowIn .u8 w3 (0) (w.heap.size) (some ⟨0, 0, none⟩) 64 dbTab ∧ Below w.heap.size w w3 := by
          refine ⟨?_, ?_, ?_, ?_⟩
          all_goals repeat' (first | (with_reducible assumption) | (with_reducible exact Below.refl _ _) | (with_reducible refine Blk.after ?_ b3) | (with_reducible refine RowIn.belowS ?_ b3) | (with_reducible refine Below.after ?_ b3 ?_) | (with_reducible refine Blk.drewN ?_ _) | (with_reducible refine RowIn.drewN ?_ _) | (with_reducible refine below_drewN ?_ _) | (with_reducible refine Blk.drew ?_) | (with_reducible refine RowIn.drew ?_) | (with_reducible refine Below.drew ?_) | (with_reducible refine Blk.new' ?_ ?_ <;> first | (with_reducible rfl) | (simp; done)) | (with_reducible refine Blk.alloc ?_ _) | (with_reducible refine RowIn.alloc ?_ _) | (with_reducible refine Below.alloc ?_ ?_ _) | (with_reducible apply Blk.set') | (with_reducible apply Blk.far') | (with_reducible refine RowIn.far' ?_ ?_ _) | (with_reducible refine Below.far' ?_ ?_ _) | rfl | omega | go_size)
        clear zb_2 rb_2 rt_2 bb_2 kb_2 fb_2 lb_2 b3
        have kb_3 := zb_3.cell; have fb_3 := zb_3.frozen; have lb_3 := zb_3.lt
        clear hcl
        go_wp2
        go_ret3
        refine ⟨by rw [HR.out]; first | rfl | go_num, ?_⟩
        repeat' (first | (with_reducible assumption) | (with_reducible exact Below.refl _ _) | (with_reducible refine Blk.drewN ?_ _) | (with_reducible refine RowIn.drewN ?_ _) | (with_reducible refine below_drewN ?_ _) | (with_reducible refine Blk.drew ?_) | (with_reducible refine RowIn.drew ?_) | (with_reducible refine Below.drew ?_) | (with_reducible refine Blk.new' ?_ ?_ <;> first | (with_reducible rfl) | (simp; done)) | (with_reducible refine Blk.alloc ?_ _) | (with_reducible refine RowIn.alloc ?_ _) | (with_reducible refine Below.alloc ?_ ?_ _) | (with_reducible apply Blk.set') | (with_reducible apply Blk.far') | (with_reducible refine RowIn.far' ?_ ?_ _) | (with_reducible refine Below.far' ?_ ?_ _) | rfl | omega | go_size)
      have hzl : (z : Int) ≤ ((bs.length : Nat) : Int) - (32 : Int) := by omega
      have hy : y < 4294967296 := by rw [HY.out]; exact bval_take_lt _ _
      rw [if_neg h5] at HR1
      clear hz h5
      rw [if_neg (by omega)] at HR1
      have hw1 : IntKind.u32.wrap (y : Int) = (y : Int) := IntWalk.u32_in _ (by omega)
      obtain ⟨x, HX⟩ : ∃ x, Hid (x = y / 2 ^ k) := ⟨_, Lib.hid rfl⟩
      by_cases h6 : x < 48
      · have HR : Hid (rrR bs (i : Nat) (k : Nat) = (0, 0, 12)) := by rw [HR0.out, HR1.out, ← HX.out, if_pos h6]; rfl
        go_enter Tryd.func74, Tryd.ntmps74
        go_wp2_with fail
        refine (bcheck_ok A m c bs _ (by exact RowIn.row (lo := 0) (hi := w.heap.size) (by repeat' (first | (with_reducible assumption) | (with_reducible exact Below.refl _ _) | (with_reducible refine Blk.drewN ?_ _) | (with_reducible refine RowIn.drewN ?_ _) | (with_reducible refine below_drewN ?_ _) | (with_reducible refine Blk.drew ?_) | (with_reducible refine RowIn.drew ?_) | (with_reducible refine Below.drew ?_) | (with_reducible refine Blk.new' ?_ ?_ <;> first | (with_reducible rfl) | (simp; done)) | (with_reducible refine Blk.alloc ?_ _) | (with_reducible refine RowIn.alloc ?_ _) | (with_reducible refine Below.alloc ?_ ?_ _) | (with_reducible apply Blk.set') | (with_reducible apply Blk.far') | (with_reducible refine RowIn.far' ?_ ?_ _) | (with_reducible refine Below.far' ?_ ?_ _) | rfl | omega | go_size))) (by omega) hl).mono ?_
        rintro e w1 ⟨rfl, b1⟩
        have s1 := b1.size
        try simp only [World.size_alloc, World.size_setCell, World.size_drew, size_drewN] at s1
        obtain ⟨zb_1, rb_1, rt_1, bb_1⟩ : Blk w1 (w.heap.size) 26 [.slice A m c, .int .i64 ((bs.length : Nat) : Int)] ∧ RowIn .u8 w1 (0) (w.heap.size) A m (pack bs) ∧ RowIn .u8 w1 (0) (w.heap.size) (some ⟨0, 0, none⟩) 64 dbTab ∧ Below w.heap.size w w1 := by
          refine ⟨?_, ?_, ?_, ?_⟩
          all_goals repeat' (first | (with_reducible assumption) | (with_reducible exact Below.refl _ _) | (with_reducible refine Blk.after ?_ b1) | (with_reducible refine RowIn.belowS ?_ b1) | (with_reducible refine Below.after ?_ b1 ?_) | (with_reducible refine Blk.drewN ?_ _) | (with_reducible refine RowIn.drewN ?_ _) | (with_reducible refine below_drewN ?_ _) | (with_reducible refine Blk.drew ?_) | (with_reducible refine RowIn.drew ?_) | (with_reducible refine Below.drew ?_) | (with_reducible refine Blk.new' ?_ ?_ <;> first | (with_reducible rfl) | (simp; done)) | (with_reducible refine Blk.alloc ?_ _) | (with_reducible refine RowIn.alloc ?_ _) | (with_reducible refine Below.alloc ?_ ?_ _) | (with_reducible apply Blk.set') | (with_reducible apply Blk.far') | (with_reducible refine RowIn.far' ?_ ?_ _) | (with_reducible refine Below.far' ?_ ?_ _) | rfl | omega | go_size)
        clear b1
        have kb_1 := zb_1.cell; have fb_1 := zb_1.frozen; have lb_1 := zb_1.lt
        go_wp2_with fail
        refine (uread_ok A m c bs (i : Nat) 48 u _ (by exact RowIn.row (lo := 0) (hi := w.heap.size) (by repeat' (first | (with_reducible assumption) | (with_reducible exact Below.refl _ _) | (with_reducible refine Blk.drewN ?_ _) | (with_reducible refine RowIn.drewN ?_ _) | (with_reducible refine below_drewN ?_ _) | (with_reducible refine Blk.drew ?_) | (with_reducible refine RowIn.drew ?_) | (with_reducible refine Below.drew ?_) | (with_reducible refine Blk.new' ?_ ?_ <;> first | (with_reducible rfl) | (simp; done)) | (with_reducible refine Blk.alloc ?_ _) | (with_reducible refine RowIn.alloc ?_ _) | (with_reducible refine Below.alloc ?_ ?_ _) | (with_reducible apply Blk.set') | (with_reducible apply Blk.far') | (with_reducible refine RowIn.far' ?_ ?_ _) | (with_reducible refine Below.far' ?_ ?_ _) | rfl | omega | go_size))) hc hl (by omega) (by rw [Int.toNat_natCast]; exact HU.out) (by exact RowIn.row (lo := 0) (hi := w.heap.size) (by repeat' (first | (with_reducible assumption) | (with_reducible exact Below.refl _ _) | (with_reducible refine Blk.drewN ?_ _) | (with_reducible refine RowIn.drewN ?_ _) | (with_reducible refine below_drewN ?_ _) | (with_reducible refine Blk.drew ?_) | (with_reducible refine RowIn.drew ?_) | (with_reducible refine Below.drew ?_) | (with_reducible refine Blk.new' ?_ ?_ <;> first | (with_reducible rfl) | (simp; done)) | (with_reducible refine Blk.alloc ?_ _) | (with_reducible refine RowIn.alloc ?_ _) | (with_reducible refine Below.alloc ?_ ?_ _) | (with_reducible apply Blk.set') | (with_reducible apply Blk.far') | (with_reducible refine RowIn.far' ?_ ?_ _) | (with_reducible refine Below.far' ?_ ?_ _) | rfl | omega | go_size)))).mono ?_
        rintro e w2 ⟨z2, rfl, HZ2, b2⟩
        have s2 := b2.size
        try simp only [World.size_alloc, World.size_setCell, World.size_drew, size_drewN] at s2
        obtain ⟨zb_2, rb_2, rt_2, bb_2⟩ : Blk w2 (w.heap.size) 26 [.slice A m c, .int .i64 ((bs.length : Nat) : Int)] ∧ RowIn .u8 w2 (0) (w.heap.size) A m (pack bs) ∧ RowIn .u8 w2 (0) (w.heap.size) (some ⟨0, 0, none⟩) 64 dbTab ∧ Below w.heap.size w w2 := by
          refine ⟨?_, ?_, ?_, ?_⟩
          all_goals repeat' (first | (with_reducible assumption) | (with_reducible exact Below.refl _ _) | (with_reducible refine Blk.after ?_ b2) | (with_reducible refine RowIn.belowS ?_ b2) | (with_reducible refine Below.after ?_ b2 ?_) | (with_reducible refine Blk.drewN ?_ _) | (with_reducible refine RowIn.drewN ?_ _) | (with_reducible refine below_drewN ?_ _) | (with_reducible refine Blk.drew ?_) | (with_reducible refine RowIn.drew ?_) | (with_reducible refine Below.drew ?_) | (with_reducible refine Blk.new' ?_ ?_ <;> first | (with_reducible rfl) | (simp; done)) | (with_reducible refine Blk.alloc ?_ _) | (with_reducible refine RowIn.alloc ?_ _) | (with_reducible refine Below.alloc ?_ ?_ _) | (with_reducible apply Blk.set') | (with_reducible apply Blk.far') | (with_reducible refine RowIn.far' ?_ ?_ _) | (with_reducible refine Below.far' ?_ ?_ _) | rfl | omega | go_size)
        clear zb_1 rb_1 rt_1 bb_1 kb_1 fb_1 lb_1 b2
        have kb_2 := zb_2.cell; have fb_2 := zb_2.frozen; have lb_2 := zb_2.lt
        obtain rfl : z = z2 := by rw [HZ.out, HZ2.out, Int.toNat_natCast]
        clear HZ2
        go_wp2_with fail
        refine (bget_ok A m c bs (z : Nat) (32 : Int) w2 rb_2.row hc hl (by omega) (by omega) hzl).mono ?_
        rintro e w3 ⟨y2, rfl, HY2, b3⟩
        have s3 := b3.size
        try simp only [World.size_alloc, World.size_setCell, World.size_drew, size_drewN] at s3
        obtain ⟨zb_3, rb_3, rt_3, bb_3⟩ : Blk w3 (w.heap.size) 26 [.slice A m c, .int .i64 ((bs.length : Nat) : Int)] ∧ RowIn .u8 w3 (0) (w.heap.size) A m (pack bs) ∧ RowIn .u8 w3 (0) (w.heap.size) (some ⟨0, 0, none⟩) 64 dbTab ∧ Below w.heap.size w w3 := by
          refine ⟨?_, ?_, ?_, ?_⟩
          all_goals repeat' (first | (with_reducible assumption) | (with_reducible exact Below.refl _ _) | (with_reducible refine Blk.after ?_ b3) | (with_reducible refine RowIn.belowS ?_ b3) | (with_reducible refine Below.after ?_ b3 ?_) | (with_reducible refine Blk.drewN ?_ _) | (with_reducible refine RowIn.drewN ?_ _) | (with_reducible refine below_drewN ?_ _) | (with_reducible refine Blk.drew ?_) | (with_reducible refine RowIn.drew ?_) | (with_reducible refine Below.drew ?_) | (with_reducible refine Blk.new' ?_ ?_ <;> first | (with_reducible rfl) | (simp; done)) | (with_reducible refine Blk.alloc ?_ _) | (with_reducible refine RowIn.alloc ?_ _) | (with_reducible refine Below.alloc ?_ ?_ _) | (with_reducible apply Blk.set') | (with_reducible apply Blk.far') | (with_reducible refine RowIn.far' ?_ ?_ _) | (with_reducible refine Below.far' ?_ ?_ _) | rfl | omega | go_size)
        clear zb_2 rb_2 rt_2 bb_2 kb_2 fb_2 lb_2 b3
        have kb_3 := zb_3.cell; have fb_3 := zb_3.frozen; have lb_3 := zb_3.lt
        obtain rfl : y = y2 := by rw [HY.out, HY2.out]; simp only [Int.toNat_natCast]; try rfl
        clear HY2
        go_wp2_with fail
        refine (resc_no y k x _ hk hy HX.out h6).mono ?_
        rintro e _ ⟨rfl, rfl⟩
        go_wp2
        go_ret3
        refine ⟨by rw [HR.out]; first | rfl | go_num, ?_⟩
        repeat' (first | (with_reducible assumption) | (with_reducible exact Below.refl _ _) | (with_reducible refine Blk.drewN ?_ _) | (with_reducible refine RowIn.drewN ?_ _) | (with_reducible refine below_drewN ?_ _) | (with_reducible refine Blk.drew ?_) | (with_reducible refine RowIn.drew ?_) | (with_reducible refine Below.drew ?_) | (with_reducible refine Blk.new' ?_ ?_ <;> first | (with_reducible rfl) | (simp; done)) | (with_reducible refine Blk.alloc ?_ _) | (with_reducible refine RowIn.alloc ?_ _) | (with_reducible refine Below.alloc ?_ ?_ _) | (with_reducible apply Blk.set') | (with_reducible apply Blk.far') | (with_reducible refine RowIn.far' ?_ ?_ _) | (with_reducible refine Below.far' ?_ ?_ _) | rfl | omega | go_size)
      · have HR : Hid (rrR bs (i : Nat) (k : Nat) = ((y : Int), (z : Int) + 32, 0)) := by rw [HR0.out, HR1.out, ← HX.out, if_neg h6, HZ.out]; refine Lib.hid ?_; simp only [Prod.mk.injEq, true_and, and_true]; omega
        go_enter Tryd.func74, Tryd.ntmps74
        go_wp2_with fail
        refine (bcheck_ok A m c bs _ (by exact RowIn.row (lo := 0) (hi := w.heap.size) (by repeat' (first | (with_reducible assumption) | (with_reducible exact Below.refl _ _) | (with_reducible refine Blk.drewN ?_ _) | (with_reducible refine RowIn.drewN ?_ _) | (with_reducible refine below_drewN ?_ _) | (with_reducible refine Blk.drew ?_) | (with_reducible refine RowIn.drew ?_) | (with_reducible refine Below.drew ?_) | (with_reducible refine Blk.new' ?_ ?_ <;> first | (with_reducible rfl) | (simp; done)) | (with_reducible refine Blk.alloc ?_ _) | (with_reducible refine RowIn.alloc ?_ _) | (with_reducible refine Below.alloc ?_ ?_ _) | (with_reducible apply Blk.set') | (with_reducible apply Blk.far') | (with_reducible refine RowIn.far' ?_ ?_ _) | (with_reducible refine Below.far' ?_ ?_ _) | rfl | omega | go_size))) (by omega) hl).mono ?_
        rintro e w1 ⟨rfl, b1⟩
        have s1 := b1.size
        try simp only [World.size_alloc, World.size_setCell, World.size_drew, size_drewN] at s1
        obtain ⟨zb_1, rb_1, rt_1, bb_1⟩ : Blk w1 (w.heap.size) 26 [.slice A m c, .int .i64 ((bs.length : Nat) : Int)] ∧ RowIn .u8 w1 (0) (w.heap.size) A m (pack bs) ∧ RowIn .u8 w1 (0) (w.heap.size) (some ⟨0, 0, none⟩) 64 dbTab ∧ Below w.heap.size w w1 := by
          refine ⟨?_, ?_, ?_, ?_⟩
          all_goals repeat' (first | (with_reducible assumption) | (with_reducible exact Below.refl _ _) | (with_reducible refine Blk.after ?_ b1) | (with_reducible refine RowIn.belowS ?_ b1) | (with_reducible refine Below.after ?_ b1 ?_) | (with_reducible refine Blk.drewN ?_ _) | (with_reducible refine RowIn.drewN ?_ _) | (with_reducible refine below_drewN ?_ _) | (with_reducible refine Blk.drew ?_) | (with_reducible refine RowIn.drew ?_) | (with_reducible refine Below.drew ?_) | (with_reducible refine Blk.new' ?_ ?_ <;> first | (with_reducible rfl) | (simp; done)) | (with_reducible refine Blk.alloc ?_ _) | (with_reducible refine RowIn.alloc ?_ _) | (with_reducible refine Below.alloc ?_ ?_ _) | (with_reducible apply Blk.set') | (with_reducible apply Blk.far') | (with_reducible refine RowIn.far' ?_ ?_ _) | (with_reducible refine Below.far' ?_ ?_ _) | rfl | omega | go_size)
        clear b1
        have kb_1 := zb_1.cell; have fb_1 := zb_1.frozen; have lb_1 := zb_1.lt
        go_wp2_with fail
        refine (uread_ok A m c bs (i : Nat) 48 u _ (by exact RowIn.row (lo := 0) (hi := w.heap.size) (by repeat' (first | (with_reducible assumption) | (with_reducible exact Below.refl _ _) | (with_reducible refine Blk.drewN ?_ _) | (with_reducible refine RowIn.drewN ?_ _) | (with_reducible refine below_drewN ?_ _) | (with_reducible refine Blk.drew ?_) | (with_reducible refine RowIn.drew ?_) | (with_reducible refine Below.drew ?_) | (with_reducible refine Blk.new' ?_ ?_ <;> first | (with_reducible rfl) | (simp; done)) | (with_reducible refine Blk.alloc ?_ _) | (with_reducible refine RowIn.alloc ?_ _) | (with_reducible refine Below.alloc ?_ ?_ _) | (with_reducible apply Blk.set') | (with_reducible apply Blk.far') | (with_reducible refine RowIn.far' ?_ ?_ _) | (with_reducible refine Below.far' ?_ ?_ _) | rfl | omega | go_size))) hc hl (by omega) (by rw [Int.toNat_natCast]; exact HU.out) (by exact RowIn.row (lo := 0) (hi := w.heap.size) (by repeat' (first | (with_reducible assumption) | (with_reducible exact Below.refl _ _) | (with_reducible refine Blk.drewN ?_ _) | (with_reducible refine RowIn.drewN ?_ _) | (with_reducible refine below_drewN ?_ _) | (with_reducible refine Blk.drew ?_) | (with_reducible refine RowIn.drew ?_) | (with_reducible refine Below.drew ?_) | (with_reducible refine Blk.new' ?_ ?_ <;> first | (with_reducible rfl) | (simp; done)) | (with_reducible refine Blk.alloc ?_ _) | (with_reducible refine RowIn.alloc ?_ _) | (with_reducible refine Below.alloc ?_ ?_ _) | (with_reducible apply Blk.set') | (with_reducible apply Blk.far') | (with_reducible refine RowIn.far' ?_ ?_ _) | (with_reducible refine Below.far' ?_ ?_ _) | rfl | omega | go_size)))).mono ?_
        rintro e w2 ⟨z2, rfl, HZ2, b2⟩
        have s2 := b2.size
        try simp only [World.size_alloc, World.size_setCell, World.size_drew, size_drewN] at s2
        obtain ⟨zb_2, rb_2, rt_2, bb_2⟩ : Blk w2 (w.heap.size) 26 [.slice A m c, .int .i64 ((bs.length : Nat) : Int)] ∧ RowIn .u8 w2 (0) (w.heap.size) A m (pack bs) ∧ RowIn .u8 w2 (0) (w.heap.size) (some ⟨0, 0, none⟩) 64 dbTab ∧ Below w.heap.size w w2 := by
          refine ⟨?_, ?_, ?_, ?_⟩
          all_goals repeat' (first | (with_reducible assumption) | (with_reducible exact Below.refl _ _) | (with_reducible refine Blk.after ?_ b2) | (with_reducible refine RowIn.belowS ?_ b2) | (with_reducible refine Below.after ?_ b2 ?_) | (with_reducible refine Blk.drewN ?_ _) | (with_reducible refine RowIn.drewN ?_ _) | (with_reducible refine below_drewN ?_ _) | (with_reducible refine Blk.drew ?_) | (with_reducible refine RowIn.drew ?_) | (with_reducible refine Below.drew ?_) | (with_reducible refine Blk.new' ?_ ?_ <;> first | (with_reducible rfl) | (simp; done)) | (with_reducible refine Blk.alloc ?_ _) | (with_reducible refine RowIn.alloc ?_ _) | (with_reducible refine Below.alloc ?_ ?_ _) | (with_reducible apply Blk.set') | (with_reducible apply Blk.far') | (with_reducible refine RowIn.far' ?_ ?_ _) | (with_reducible refine Below.far' ?_ ?_ _) | rfl | omega | go_size)
        clear zb_1 rb_1 rt_1 bb_1 kb_1 fb_1 lb_1 b2
        have kb_2 := zb_2.cell; have fb_2 := zb_2.frozen; have lb_2 := zb_2.lt
        obtain rfl : z = z2 := by rw [HZ.out, HZ2.out, Int.toNat_natCast]
        clear HZ2
        go_wp2_with fail
        refine (bget_ok A m c bs (z : Nat) (32 : Int) w2 rb_2.row hc hl (by omega) (by omega) hzl).mono ?_
        rintro e w3 ⟨y2, rfl, HY2, b3⟩
        have s3 := b3.size
        try simp only [World.size_alloc, World.size_setCell, World.size_drew, size_drewN] at s3
        obtain ⟨zb_3, rb_3, rt_3, bb_3⟩ : Blk w3 (w.heap.size) 26 [.slice A m c, .int .i64 ((bs.length : Nat) : Int)] ∧ RowIn .u8 w3 (0) (w.heap.size) A m (pack bs) ∧ RowIn .u8 w3 (0) (w.heap.size) (some ⟨0, 0, none⟩) 64 dbTab ∧ Below w.heap.size w w3 := by
          refine ⟨?_, ?_, ?_, ?_⟩
          all_goals repeat' (first | (with_reducible assumption) | (with_reducible exact Below.refl _ _) | (with_reducible refine Blk.after ?_ b3) | (with_reducible refine RowIn.belowS ?_ b3) | (with_reducible refine Below.after ?_ b3 ?_) | (with_reducible refine Blk.drewN ?_ _) | (with_reducible refine RowIn.drewN ?_ _) | (with_reducible refine below_drewN ?_ _) | (with_reducible refine Blk.drew ?_) | (with_reducible refine RowIn.drew ?_) | (with_reducible refine Below.drew ?_) | (with_reducible refine Blk.new' ?_ ?_ <;> first | (with_reducible rfl) | (simp; done)) | (with_reducible refine Blk.alloc ?_ _) | (with_reducible refine RowIn.alloc ?_ _) | (with_reducible refine Below.alloc ?_ ?_ _) | (with_reducible apply Blk.set') | (with_reducible apply Blk.far') | (with_reducible refine RowIn.far' ?_ ?_ _) | (with_reducible refine Below.far' ?_ ?_ _) | rfl | omega | go_size)
        clear zb_2 rb_2 rt_2 bb_2 kb_2 fb_2 lb_2 b3
        have kb_3 := zb_3.cell; have fb_3 := zb_3.frozen; have lb_3 := zb_3.lt
        obtain rfl : y = y2 := by rw [HY.out, HY2.out]; simp only [Int.toNat_natCast]; try rfl
        clear HY2
        go_wp2_with fail
        refine (resc_yes y k x _ hk hy HX.out (by omega)).mono ?_
        rintro e _ ⟨rfl, rfl⟩
        go_wp2
        go_ret3
        refine ⟨by rw [HR.out]; first | rfl | go_num, ?_⟩
        repeat' (first | (with_reducible assumption) | (with_reducible exact Below.refl _ _) | (with_reducible refine Blk.drewN ?_ _) | (with_reducible refine RowIn.drewN ?_ _) | (with_reducible refine below_drewN ?_ _) | (with_reducible refine Blk.drew ?_) | (with_reducible refine RowIn.drew ?_) | (with_reducible refine Below.drew ?_) | (with_reducible refine Blk.new' ?_ ?_ <;> first | (with_reducible rfl) | (simp; done)) | (with_reducible refine Blk.alloc ?_ _) | (with_reducible refine RowIn.alloc ?_ _) | (with_reducible refine Below.alloc ?_ ?_ _) | (with_reducible apply Blk.set') | (with_reducible apply Blk.far') | (with_reducible refine RowIn.far' ?_ ?_ _) | (with_reducible refine Below.far' ?_ ?_ _) | rfl | omega | go_size)
    · have hrl : restLen q k = k := by unfold restLen; rw [if_neg h48]
      rw [hrl] at HR1 HY
      clear hrl
      have hq48 : q < 48 := by omega
      have t48 : ((q : Int) == 48) = false := beq_eq_false_iff_ne.2 (by omega)
      clear h48
      by_cases h5 : bs.length - i - u < k
      · have HR : Hid (rrR bs (i : Nat) (k : Nat) = (0, 0, 24)) := by rw [HR0.out, HR1.out, if_pos h5]; rfl
        have HG : Hid (getR bs (z : Nat) ((k : Nat) : Int) = (0, 24)) := by unfold getR; rw [if_neg (by omega), if_pos (by omega)]; rfl
        clear hz h5
        go_enter Tryd.func74, Tryd.ntmps74
        go_wp2_with fail
        refine (bcheck_ok A m c bs _ (by exact RowIn.row (lo := 0) (hi := w.heap.size) (by repeat' (first | (with_reducible assumption) | (with_reducible exact Below.refl _ _) | (with_reducible refine Blk.drewN ?_ _) | (with_reducible refine RowIn.drewN ?_ _) | (with_reducible refine below_drewN ?_ _) | (with_reducible refine Blk.drew ?_) | (with_reducible refine RowIn.drew ?_) | (with_reducible refine Below.drew ?_) | (with_reducible refine Blk.new' ?_ ?_ <;> first | (with_reducible rfl) | (simp; done)) | (with_reducible refine Blk.alloc ?_ _) | (with_reducible refine RowIn.alloc ?_ _) | (with_reducible refine Below.alloc ?_ ?_ _) | (with_reducible apply Blk.set') | (with_reducible apply Blk.far') | (with_reducible refine RowIn.far' ?_ ?_ _) | (with_reducible refine Below.far' ?_ ?_ _) | rfl | omega | go_size))) (by omega) hl).mono ?_
        rintro e w1 ⟨rfl, b1⟩
        have s1 := b1.size
        try simp only [World.size_alloc, World.size_setCell, World.size_drew, size_drewN] at s1
        obtain ⟨zb_1, rb_1, rt_1, bb_1⟩ : Blk w1 (w.heap.size) 26 [.slice A m c, .int .i64 ((bs.length : Nat) : Int)] ∧ RowIn .u8 w1 (0) (w.heap.size) A m (pack bs) ∧ RowIn .u8 w1 (0) (w.heap.size) (some ⟨0, 0, none⟩) 64 dbTab ∧ Below w.heap.size w w1 := by
          refine ⟨?_, ?_, ?_, ?_⟩
          all_goals repeat' (first | (with_reducible assumption) | (with_reducible exact Below.refl _ _) | (with_reducible refine Blk.after ?_ b1) | (with_reducible refine RowIn.belowS ?_ b1) | (with_reducible refine Below.after ?_ b1 ?_) | (with_reducible refine Blk.drewN ?_ _) | (with_reducible refine RowIn.drewN ?_ _) | (with_reducible refine below_drewN ?_ _) | (with_reducible refine Blk.drew ?_) | (with_reducible refine RowIn.drew ?_) | (with_reducible refine Below.drew ?_) | (with_reducible refine Blk.new' ?_ ?_ <;> first | (with_reducible rfl) | (simp; done)) | (with_reducible refine Blk.alloc ?_ _) | (with_reducible refine RowIn.alloc ?_ _) | (with_reducible refine Below.alloc ?_ ?_ _) | (with_reducible apply Blk.set') | (with_reducible apply Blk.far') | (with_reducible refine RowIn.far' ?_ ?_ _) | (with_reducible refine Below.far' ?_ ?_ _) | rfl | omega | go_size)
        clear b1
        have kb_1 := zb_1.cell; have fb_1 := zb_1.frozen; have lb_1 := zb_1.lt
        go_wp2_with fail
        refine (uread_ok A m c bs (i : Nat) q u _ (by exact RowIn.row (lo := 0) (hi := w.heap.size) (by repeat' (first | (with_reducible assumption) | (with_reducible exact Below.refl _ _) | (with_reducible refine Blk.drewN ?_ _) | (with_reducible refine RowIn.drewN ?_ _) | (with_reducible refine below_drewN ?_ _) | (with_reducible refine Blk.drew ?_) | (with_reducible refine RowIn.drew ?_) | (with_reducible refine Below.drew ?_) | (with_reducible refine Blk.new' ?_ ?_ <;> first | (with_reducible rfl) | (simp; done)) | (with_reducible refine Blk.alloc ?_ _) | (with_reducible refine RowIn.alloc ?_ _) | (with_reducible refine Below.alloc ?_ ?_ _) | (with_reducible apply Blk.set') | (with_reducible apply Blk.far') | (with_reducible refine RowIn.far' ?_ ?_ _) | (with_reducible refine Below.far' ?_ ?_ _) | rfl | omega | go_size))) hc hl (by omega) (by rw [Int.toNat_natCast]; exact HU.out) (by exact RowIn.row (lo := 0) (hi := w.heap.size) (by repeat' (first | (with_reducible assumption) | (with_reducible exact Below.refl _ _) | (with_reducible refine Blk.drewN ?_ _) | (with_reducible refine RowIn.drewN ?_ _) | (with_reducible refine below_drewN ?_ _) | (with_reducible refine Blk.drew ?_) | (with_reducible refine RowIn.drew ?_) | (with_reducible refine Below.drew ?_) | (with_reducible refine Blk.new' ?_ ?_ <;> first | (with_reducible rfl) | (simp; done)) | (with_reducible refine Blk.alloc ?_ _) | (with_reducible refine RowIn.alloc ?_ _) | (with_reducible refine Below.alloc ?_ ?_ _) | (with_reducible apply Blk.set') | (with_reducible apply Blk.far') | (with_reducible refine RowIn.far' ?_ ?_ _) | (with_reducible refine Below.far' ?_ ?_ _) | rfl | omega | go_size)))).mono ?_
        rintro e w2 ⟨z2, rfl, HZ2, b2⟩
        have s2 := b2.size
        try simp only [World.size_alloc, World.size_setCell, World.size_drew, size_drewN] at s2
        obtain ⟨zb_2, rb_2, rt_2, bb_2⟩ : Blk w2 (w.heap.size) 26 [.slice A m c, .int .i64 ((bs.length : Nat) : Int)] ∧ RowIn .u8 w2 (0) (w.heap.size) A m (pack bs) ∧ RowIn .u8 w2 (0) (w.heap.size) (some ⟨0, 0, none⟩) 64 dbTab ∧ Below w.heap.size w w2 := by
          refine ⟨?_, ?_, ?_, ?_⟩
          all_goals repeat' (first | (with_reducible assumption) | (with_reducible exact Below.refl _ _) | (with_reducible refine Blk.after ?_ b2) | (with_reducible refine RowIn.belowS ?_ b2) | (with_reducible refine Below.after ?_ b2 ?_) | (with_reducible refine Blk.drewN ?_ _) | (with_reducible refine RowIn.drewN ?_ _) | (with_reducible refine below_drewN ?_ _) | (with_reducible refine Blk.drew ?_) | (with_reducible refine RowIn.drew ?_) | (with_reducible refine Below.drew ?_) | (with_reducible refine Blk.new' ?_ ?_ <;> first | (with_reducible rfl) | (simp; done)) | (with_reducible refine Blk.alloc ?_ _) | (with_reducible refine RowIn.alloc ?_ _) | (with_reducible refine Below.alloc ?_ ?_ _) | (with_reducible apply Blk.set') | (with_reducible apply Blk.far') | (with_reducible refine RowIn.far' ?_ ?_ _) | (with_reducible refine Below.far' ?_ ?_ _) | rfl | omega | go_size)
        clear zb_1 rb_1 rt_1 bb_1 kb_1 fb_1 lb_1 b2
        have kb_2 := zb_2.cell; have fb_2 := zb_2.frozen; have lb_2 := zb_2.lt
        obtain rfl : z = z2 := by rw [HZ.out, HZ2.out, Int.toNat_natCast]
        clear HZ2
        go_wp2_with fail
        have hcl := bget_ret A m c bs (z : Nat) ((k : Nat) : Int) w2 rb_2.row hc hl (by omega) (by omega)
        rw [HG.out] at hcl
        replace hcl := Lib.hid hcl
        refine (hcl.out).mono ?_
        rintro e w3 ⟨rfl, b3⟩
        have s3 := b3.size
        try simp only [World.size_alloc, World.size_setCell, World.size_drew, size_drewN] at s3
        obtain ⟨zb_3, rb_3, rt_3, bb_3⟩ : Blk w3 (w.heap.size) 26 [.slice A m c, .int .i64 ((bs.length : Nat) : Int)] ∧ RowIn .u8 w3 (0) (w.heap.size) A m (pack bs) ∧ RowIn .u8 w3 (0) (w.heap.size) (some ⟨0, 0, none⟩) 64 dbTab ∧ Below w.heap.size w w3 := by
          refine ⟨?_, ?_, ?_, ?_⟩
          all_goals repeat' (first | (with_reducible assumption) | (with_reducible exact Below.refl _ _) | (with_reducible refine Blk.after ?_ b3) | (with_reducible refine RowIn.belowS ?_ b3) | (with_reducible refine Below.after ?_ b3 ?_) | (with_reducible refine Blk.drewN ?_ _) | (with_reducible refine RowIn.drewN ?_ _) | (with_reducible refine below_drewN ?_ _) | (with_reducible refine Blk.drew ?_) | (with_reducible refine RowIn.drew ?_) | (with_reducible refine Below.drew ?_) | (with_reducible refine Blk.new' ?_ ?_ <;> first | (with_reducible rfl) | (simp; done)) | (with_reducible refine Blk.alloc ?_ _) | (with_reducible refine RowIn.alloc ?_ _) | (with_reducible refine Below.alloc ?_ ?_ _) | (with_reducible apply Blk.set') | (with_reducible apply Blk.far') | (with_reducible refine RowIn.far' ?_ ?_ _) | (with_reducible refine Below.far' ?_ ?_ _) | rfl | omega | go_size)
        clear zb_2 rb_2 rt_2 bb_2 kb_2 fb_2 lb_2 b3
        have kb_3 := zb_3.cell; have fb_3 := zb_3.frozen; have lb_3 := zb_3.lt
        clear hcl
        go_wp2
        go_ret3
        refine ⟨by rw [HR.out]; first | rfl | go_num, ?_⟩
        repeat' (first | (with_reducible assumption) | (with_reducible exact Below.refl _ _) | (with_reducible refine Blk.drewN ?_ _) | (with_reducible refine RowIn.drewN ?_ _) | (with_reducible refine below_drewN ?_ _) | (with_reducible refine Blk.drew ?_) | (with_reducible refine RowIn.drew ?_) | (with_reducible refine Below.drew ?_) | (with_reducible refine Blk.new' ?_ ?_ <;> first | (with_reducible rfl) | (simp; done)) | (with_reducible refine Blk.alloc ?_ _) | (with_reducible refine RowIn.alloc ?_ _) | (with_reducible refine Below.alloc ?_ ?_ _) | (with_reducible apply Blk.set') | (with_reducible apply Blk.far') | (with_reducible refine RowIn.far' ?_ ?_ _) | (with_reducible refine Below.far' ?_ ?_ _) | rfl | omega | go_size)
      have hzl : (z : Int) ≤ ((bs.length : Nat) : Int) - ((k : Nat) : Int) := by omega
      have hy : y < 2 ^ k := by rw [HY.out]; exact bval_take_lt _ _
      rw [if_neg h5] at HR1
      clear hz h5
      have hy32 : y < 4294967296 := Nat.lt_of_lt_of_le hy (Nat.le_trans (Nat.pow_le_pow_right (by omega) hk) (by decide))
      rw [if_pos hq48] at HR1
      have HR : Hid (rrR bs (i : Nat) (k : Nat) = (((q * 2 ^ k + y : Nat) : Int), (z : Int) + (k : Int), 0)) := by rw [HR0.out, HR1.out, HZ.out]; refine Lib.hid ?_; simp only [Prod.mk.injEq, true_and, and_true]; omega
      have hw1 : IntKind.u32.wrap (y : Int) = (y : Int) := IntWalk.u32_in _ (by omega)
      have hw2 : IntKind.u32.wrap (q : Int) = (q : Int) := IntWalk.u32_in _ (by omega)
      have hor := Lib.hid (rice_or hq48 hk hy)
      clear hy
      go_enter Tryd.func74, Tryd.ntmps74
      go_wp2_with fail
      refine (bcheck_ok A m c bs _ (by exact RowIn.row (lo := 0) (hi := w.heap.size) (by repeat' (first | (with_reducible assumption) | (with_reducible exact Below.refl _ _) | (with_reducible refine Blk.drewN ?_ _) | (with_reducible refine RowIn.drewN ?_ _) | (with_reducible refine below_drewN ?_ _) | (with_reducible refine Blk.drew ?_) | (with_reducible refine RowIn.drew ?_) | (with_reducible refine Below.drew ?_) | (with_reducible refine Blk.new' ?_ ?_ <;> first | (with_reducible rfl) | (simp; done)) | (with_reducible refine Blk.alloc ?_ _) | (with_reducible refine RowIn.alloc ?_ _) | (with_reducible refine Below.alloc ?_ ?_ _) | (with_reducible apply Blk.set') | (with_reducible apply Blk.far') | (with_reducible refine RowIn.far' ?_ ?_ _) | (with_reducible refine Below.far' ?_ ?_ _) | rfl | omega | go_size))) (by omega) hl).mono ?_
      rintro e w1 ⟨rfl, b1⟩
      have s1 := b1.size
      try simp only [World.size_alloc, World.size_setCell, World.size_drew, size_drewN] at s1
      obtain ⟨zb_1, rb_1, rt_1, bb_1⟩ : Blk w1 (w.heap.size) 26 [.slice A m c, .int .i64 ((bs.length : Nat) : Int)] ∧ RowIn .u8 w1 (0) (w.heap.size) A m (pack bs) ∧ RowIn .u8 w1 (0) (w.heap.size) (some ⟨0, 0, none⟩) 64 dbTab ∧ Below w.heap.size w w1 := by
        refine ⟨?_, ?_, ?_, ?_⟩
        all_goals repeat' (first | (with_reducible assumption) | (with_reducible exact Below.refl _ _) | (with_reducible refine Blk.after ?_ b1) | (with_reducible refine RowIn.belowS ?_ b1) | (with_reducible refine Below.after ?_ b1 ?_) | (with_reducible refine Blk.drewN ?_ _) | (with_reducible refine RowIn.drewN ?_ _) | (with_reducible refine below_drewN ?_ _) | (with_reducible refine Blk.drew ?_) | (with_reducible refine RowIn.drew ?_) | (with_reducible refine Below.drew ?_) | (with_reducible refine Blk.new' ?_ ?_ <;> first | (with_reducible rfl) | (simp; done)) | (with_reducible refine Blk.alloc ?_ _) | (with_reducible refine RowIn.alloc ?_ _) | (with_reducible refine Below.alloc ?_ ?_ _) | (with_reducible apply Blk.set') | (with_reducible apply Blk.far') | (with_reducible refine RowIn.far' ?_ ?_ _) | (with_reducible refine Below.far' ?_ ?_ _) | rfl | omega | go_size)
      clear b1
      have kb_1 := zb_1.cell; have fb_1 := zb_1.frozen; have lb_1 := zb_1.lt
      go_wp2_with fail
      refine (uread_ok A m c bs (i : Nat) q u _ (by exact RowIn.row (lo := 0) (hi := w.heap.size) (by repeat' (first | (with_reducible assumption) | (with_reducible exact Below.refl _ _) | (with_reducible refine Blk.drewN ?_ _) | (with_reducible refine RowIn.drewN ?_ _) | (with_reducible refine below_drewN ?_ _) | (with_reducible refine Blk.drew ?_) | (with_reducible refine RowIn.drew ?_) | (with_reducible refine Below.drew ?_) | (with_reducible refine Blk.new' ?_ ?_ <;> first | (with_reducible rfl) | (simp; done)) | (with_reducible refine Blk.alloc ?_ _) | (with_reducible refine RowIn.alloc ?_ _) | (with_reducible refine Below.alloc ?_ ?_ _) | (with_reducible apply Blk.set') | (with_reducible apply Blk.far') | (with_reducible refine RowIn.far' ?_ ?_ _) | (with_reducible refine Below.far' ?_ ?_ _) | rfl | omega | go_size))) hc hl (by omega) (by rw [Int.toNat_natCast]; exact HU.out) (by exact RowIn.row (lo := 0) (hi := w.heap.size) (by repeat' (first | (with_reducible assumption) | (with_reducible exact Below.refl _ _) | (with_reducible refine Blk.drewN ?_ _) | (with_reducible refine RowIn.drewN ?_ _) | (with_reducible refine below_drewN ?_ _) | (with_reducible refine Blk.drew ?_) | (with_reducible refine RowIn.drew ?_) | (with_reducible refine Below.drew ?_) | (with_reducible refine Blk.new' ?_ ?_ <;> first | (with_reducible rfl) | (simp; done)) | (with_reducible refine Blk.alloc ?_ _) | (with_reducible refine RowIn.alloc ?_ _) | (with_reducible refine Below.alloc ?_ ?_ _) | (with_reducible apply Blk.set') | (with_reducible apply Blk.far') | (with_reducible refine RowIn.far' ?_ ?_ _) | (with_reducible refine Below.far' ?_ ?_ _) | rfl | omega | go_size)))).mono ?_
      rintro e w2 ⟨z2, rfl, HZ2, b2⟩
      have s2 := b2.size
      try simp only [World.size_alloc, World.size_setCell, World.size_drew, size_drewN] at s2
      obtain ⟨zb_2, rb_2, rt_2, bb_2⟩ : Blk w2 (w.heap.size) 26 [.slice A m c, .int .i64 ((bs.length : Nat) : Int)] ∧ RowIn .u8 w2 (0) (w.heap.size) A m (pack bs) ∧ RowIn .u8 w2 (0) (w.heap.size) (some ⟨0, 0, none⟩) 64 dbTab ∧ Below w.heap.size w w2 := by
        refine ⟨?_, ?_, ?_, ?_⟩
        all_goals repeat' (first | (with_reducible assumption) | (with_reducible exact Below.refl _ _) | (with_reducible refine Blk.after ?_ b2) | (with_reducible refine RowIn.belowS ?_ b2) | (with_reducible refine Below.after ?_ b2 ?_) | (with_reducible refine Blk.drewN ?_ _) | (with_reducible refine RowIn.drewN ?_ _) | (with_reducible refine below_drewN ?_ _) | (with_reducible refine Blk.drew ?_) | (with_reducible refine RowIn.drew ?_) | (with_reducible refine Below.drew ?_) | (with_reducible refine Blk.new' ?_ ?_ <;> first | (with_reducible rfl) | (simp; done)) | (with_reducible refine Blk.alloc ?_ _) | (with_reducible refine RowIn.alloc ?_ _) | (with_reducible refine Below.alloc ?_ ?_ _) | (with_reducible apply Blk.set') | (with_reducible apply Blk.far') | (with_reducible refine RowIn.far' ?_ ?_ _) | (with_reducible refine Below.far' ?_ ?_ _) | rfl | omega | go_size)
      clear zb_1 rb_1 rt_1 bb_1 kb_1 fb_1 lb_1 b2
      have kb_2 := zb_2.cell; have fb_2 := zb_2.frozen; have lb_2 := zb_2.lt
      obtain rfl : z = z2 := by rw [HZ.out, HZ2.out, Int.toNat_natCast]
      clear HZ2
      go_wp2_with fail
      refine (bget_ok A m c bs (z : Nat) ((k : Nat) : Int) w2 rb_2.row hc hl (by omega) (by omega) hzl).mono ?_
      rintro e w3 ⟨y2, rfl, HY2, b3⟩
      have s3 := b3.size
      try simp only [World.size_alloc, World.size_setCell, World.size_drew, size_drewN] at s3
      obtain ⟨zb_3, rb_3, rt_3, bb_3⟩ : Blk w3 (w.heap.size) 26 [.slice A m c, .int .i64 ((bs.length : Nat) : Int)] ∧ RowIn .u8 w3 (0) (w.heap.size) A m (pack bs) ∧ RowIn .u8 w3 (0) (w.heap.size) (some ⟨0, 0, none⟩) 64 dbTab ∧ Below w.heap.size w w3 := by
        refine ⟨?_, ?_, ?_, ?_⟩
        all_goals repeat' (first | (with_reducible assumption) | (with_reducible exact Below.refl _ _) | (with_reducible refine Blk.after ?_ b3) | (with_reducible refine RowIn.belowS ?_ b3) | (with_reducible refine Below.after ?_ b3 ?_) | (with_reducible refine Blk.drewN ?_ _) | (with_reducible refine RowIn.drewN ?_ _) | (with_reducible refine below_drewN ?_ _) | (with_reducible refine Blk.drew ?_) | (with_reducible refine RowIn.drew ?_) | (with_reducible refine Below.drew ?_) | (with_reducible refine Blk.new' ?_ ?_ <;> first | (with_reducible rfl) | (simp; done)) | (with_reducible refine Blk.alloc ?_ _) | (with_reducible refine RowIn.alloc ?_ _) | (with_reducible refine Below.alloc ?_ ?_ _) | (with_reducible apply Blk.set') | (with_reducible apply Blk.far') | (with_reducible refine RowIn.far' ?_ ?_ _) | (with_reducible refine Below.far' ?_ ?_ _) | rfl | omega | go_size)
      clear zb_2 rb_2 rt_2 bb_2 kb_2 fb_2 lb_2 b3
      have kb_3 := zb_3.cell; have fb_3 := zb_3.frozen; have lb_3 := zb_3.lt
      obtain rfl : y = y2 := by rw [HY.out, HY2.out]; simp only [Int.toNat_natCast]; try rfl
      clear HY2
      go_wp2
      go_ret3
      refine ⟨by rw [HR.out, hor.out]; first | rfl | go_num, ?_⟩
      repeat' (first | (with_reducible assumption) | (with_reducible exact Below.refl _ _) | (with_reducible refine Blk.drewN ?_ _) | (with_reducible refine RowIn.drewN ?_ _) | (with_reducible refine below_drewN ?_ _) | (with_reducible refine Blk.drew ?_) | (with_reducible refine RowIn.drew ?_) | (with_reducible refine Below.drew ?_) | (with_reducible refine Blk.new' ?_ ?_ <;> first | (with_reducible rfl) | (simp; done)) | (with_reducible refine Blk.alloc ?_ _) | (with_reducible refine RowIn.alloc ?_ _) | (with_reducible refine Below.alloc ?_ ?_ _) | (with_reducible apply Blk.set') | (with_reducible apply Blk.far') | (with_reducible refine RowIn.far' ?_ ?_ _) | (with_reducible refine Below.far' ?_ ?_ _) | rfl | omega | go_size)


theorem rread_ok (A : Option Addr) (m c : Nat) (bs : List Bool) (p : Int) (k v n : Nat) (w : World) (ha : Row .u8 w A m (pack bs)) (hc : m ≤ c ∧ c ≤ 9223372036854775807) (hl : bs.length ≤ 330000) (hp : 0 ≤ p ∧ p ≤ 9223372036854775807) (hk : k ≤ 24) (hr : readR (bs.drop p.toNat) k = .ok v n) (ht : Tab w) :
    Calls Tryd.prog 74 #[.agg #[.slice A m c, .int .i64 ((bs.length : Nat) : Int)], .int .i64 p, .int .i64 (k : Int)] w fun e w' => ∃ z : Nat, e = .returned (.tuple #[.int .u32 (v : Int), .int .i64 (z : Int), .int .i64 0]) ∧ Hid (z = p.toNat + n) ∧ Below w.heap.size w w' := by
  have h := rread_ret A m c bs p k w ha hc hl (by omega) (by omega) ht
  have e : rrR bs p k = ((v : Int), ((p.toNat + n : Nat) : Int), 0) := by unfold rrR; rw [if_neg (by omega), if_neg (by omega), Int.toNat_natCast, hr]; simp; omega
  rw [e] at h
  exact h.mono fun e w' ⟨he, hb⟩ => ⟨_, he, Lib.hid rfl, hb⟩
theorem rread_err (A : Option Addr) (m c : Nat) (bs : List Bool) (p : Int) (k er : Nat) (w : World) (ha : Row .u8 w A m (pack bs)) (hc : m ≤ c ∧ c ≤ 9223372036854775807) (hl : bs.length ≤ 330000) (hp : 0 ≤ p ∧ p ≤ 9223372036854775807) (hk : k ≤ 24) (hr : readR (bs.drop p.toNat) k = .err er) (ht : Tab w) :
    Calls Tryd.prog 74 #[.agg #[.slice A m c, .int .i64 ((bs.length : Nat) : Int)], .int .i64 p, .int .i64 (k : Int)] w fun e w' => e = .returned (.tuple #[.int .u32 0, .int .i64 0, .int .i64 (er : Int)]) ∧ Below w.heap.size w w' := by
  have h := rread_ret A m c bs p k w ha hc hl (by omega) (by omega) ht
  have e : rrR bs p k = (0, 0, (er : Int)) := by unfold rrR; rw [if_neg (by omega), if_neg (by omega), Int.toNat_natCast, hr]
  rw [e] at h
  exact h

set_option maxHeartbeats 400000 in
theorem rread_bad (A : Option Addr) (m c : Nat) (N : Int) (bytes : List Int) (p k : Int) (w : World) (ha : Row .u8 w A m bytes) (hb : Within 0 255 bytes) (hc : m ≤ c ∧ c ≤ 9223372036854775807) (hv : ¬ Valid bytes N) :
    Calls Tryd.prog 74 #[.agg #[.slice A m c, .int .i64 N], .int .i64 p, .int .i64 k] w fun e w' => e = .returned (.tuple #[.int .u32 0, .int .i64 0, .int .i64 8]) ∧ Below w.heap.size w w' := by
  have hri := ha.rowIn
  go_enter Tryd.func74, Tryd.ntmps74
  go_wp2_with fail
  refine (bcheck_bad A m c N bytes _ (by exact RowIn.row (lo := 0) (hi := w.heap.size) (by repeat' (first | (with_reducible assumption) | (with_reducible exact Below.refl _ _) | (with_reducible refine Blk.drewN ?_ _) | (with_reducible refine RowIn.drewN ?_ _) | (with_reducible refine below_drewN ?_ _) | (with_reducible refine Blk.drew ?_) | (with_reducible refine RowIn.drew ?_) | (with_reducible refine Below.drew ?_) | (with_reducible refine Blk.new' ?_ ?_ <;> first | (with_reducible rfl) | (simp; done)) | (with_reducible refine Blk.alloc ?_ _) | (with_reducible refine RowIn.alloc ?_ _) | (with_reducible refine Below.alloc ?_ ?_ _) | (with_reducible apply Blk.set') | (with_reducible apply Blk.far') | (with_reducible refine RowIn.far' ?_ ?_ _) | (with_reducible refine Below.far' ?_ ?_ _) | rfl | omega | go_size))) hb (by omega) hv).mono ?_
  rintro e w1 ⟨rfl, b1⟩
  have s1 := b1.size
  try simp only [World.size_alloc, World.size_setCell, World.size_drew, size_drewN] at s1
  obtain ⟨zb_1, rb_1, bb_1⟩ : Blk w1 (w.heap.size) 26 [.slice A m c, .int .i64 N] ∧ RowIn .u8 w1 (0) (w.heap.size) A m bytes ∧ Below w.heap.size w w1 := by
    refine ⟨?_, ?_, ?_⟩
    all_goals repeat' (first | (with_reducible assumption) | (with_reducible exact Below.refl _ _) | (with_reducible refine Blk.after ?_ b1) | (with_reducible refine RowIn.belowS ?_ b1) | (with_reducible refine Below.after ?_ b1 ?_) | (with_reducible refine Blk.drewN ?_ _) | (with_reducible refine RowIn.drewN ?_ _) | (with_reducible refine below_drewN ?_ _) | (with_reducible refine Blk.drew ?_) | (with_reducible refine RowIn.drew ?_) | (with_reducible refine Below.drew ?_) | (with_reducible refine Blk.new' ?_ ?_ <;> first | (with_reducible rfl) | (simp; done)) | (with_reducible refine Blk.alloc ?_ _) | (with_reducible refine RowIn.alloc ?_ _) | (with_reducible refine Below.alloc ?_ ?_ _) | (with_reducible apply Blk.set') | (with_reducible apply Blk.far') | (with_reducible refine RowIn.far' ?_ ?_ _) | (with_reducible refine Below.far' ?_ ?_ _) | rfl | omega | go_size)
  clear b1
  have kb_1 := zb_1.cell; have fb_1 := zb_1.frozen; have lb_1 := zb_1.lt
  go_wp2
  go_ret3
  refine ⟨rfl, ?_⟩
  repeat' (first | (with_reducible assumption) | (with_reducible exact Below.refl _ _) | (with_reducible refine Blk.drewN ?_ _) | (with_reducible refine RowIn.drewN ?_ _) | (with_reducible refine below_drewN ?_ _) | (with_reducible refine Blk.drew ?_) | (with_reducible refine RowIn.drew ?_) | (with_reducible refine Below.drew ?_) | (with_reducible refine Blk.new' ?_ ?_ <;> first | (with_reducible rfl) | (simp; done)) | (with_reducible refine Blk.alloc ?_ _) | (with_reducible refine RowIn.alloc ?_ _) | (with_reducible refine Below.alloc ?_ ?_ _) | (with_reducible apply Blk.set') | (with_reducible apply Blk.far') | (with_reducible refine RowIn.far' ?_ ?_ _) | (with_reducible refine Below.far' ?_ ?_ _) | rfl | omega | go_size)


end Go.Proofs.YtpohaikbbfochaaDoor

/-
  Contracts of the reference's bits: one bit, checking.
-/
namespace Go.Proofs.YtpohaikbbfochaaDoor
open Go.RowKit Cad Cad.Bit
set_option linter.unusedVariables false

/-- The byte with an index as a natural number. -/
theorem byte_nat {bytes : List Int} (hb : Within 0 255 bytes) (j : Nat) : ∃ x : Nat, nth bytes j = (x : Int) ∧ x < 256 := by
  have := hb.nth (by decide) (by decide) j
  exact ⟨(nth bytes j).toNat, by omega, by omega⟩

set_option maxHeartbeats 400000 in
theorem rat_any (A : Option Addr) (n c : Nat) (N : Int) (bytes : List Int) (i x : Nat) (w : World) (ha : Row .u8 w A n bytes) (hi : i / 8 < n) (hx : nth bytes (i / 8) = (x : Int)) (hx8 : x < 256) (hib : i ≤ 1000000000) (hn : n ≤ 9223372036854775807) :
    Calls Tryd.prog 42 #[.agg #[.slice A n c, .int .i64 N], .int .i64 i] w fun e w' => e = .returned (.int .i64 ((x / 2 ^ (i % 8) % 2 : Nat) : Int)) ∧ Below w.heap.size w w' := by
  obtain ⟨b, o, rfl, hbk, hc⟩ := ha.at (by omega)
  have c1 : (w.alloc (.cells #[.slice (some ⟨b, o, none⟩) n c, .int .i64 N] 26)).cell? ⟨b, o + i / 8, none⟩ = some (.int .u8 (x : Int)) := by
    rw [World.cell?_alloc_past _ _ _ hbk, hc _ hi, hx]
  have z2 : Below w.heap.size w (w.alloc (.cells #[.slice (some ⟨b, o, none⟩) n c, .int .i64 N] 26)) := (Below.refl _ _).alloc (Nat.le_refl _) _
  have Z2 := Lib.hid z2
  clear hc hx z2
  go_enter Tryd.func42, Tryd.ntmps42
  go_wp2_with fail
  go_loopg [5, 6] (i % 8) (fun r v j wr => ∃ k y : Nat, k + r = i % 8 ∧ j = .int .i64 k ∧ v = .int .i64 (y : Int) ∧ Hid (y = x / 2 ^ k) ∧ wr = w.alloc (.cells #[.slice (some ⟨b, o, none⟩) n c, .int .i64 N] 26))
  case atStart => exact ⟨0, x, by omega, rfl, rfl, Lib.hid (by simp), rfl⟩
  case round =>
    obtain ⟨k, y, hk, rfl, rfl, HY, rfl⟩ := hrel
    have hq : y ≤ 255 := by rw [HY.out]; exact Nat.le_trans (Nat.div_le_self _ _) (by omega)
    by_cases hlt : k < i % 8
    · have hlt' : (k : Int) < ((i % 8 : Nat) : Int) := by omega
      go_wp2
      go_roundg (i % 8 - (k + 1))
      case measure => omega
      case rel => exact ⟨k + 1, y / 2, by omega, by go_num, by go_num, Lib.hid (by rw [HY.out, Nat.pow_succ, ← Nat.div_div_eq_div_mul]), rfl⟩
    · obtain rfl : k = i % 8 := by omega
      go_wp2
      go_ret
      exact ⟨by rw [← HY.out]; rfl, Z2.out⟩

theorem low_zero {y j : Nat} (h1 : y % 2 ^ j = 0) (h2 : y / 2 ^ j % 2 = 0) : y % 2 ^ (j + 1) = 0 := by
  rw [Nat.pow_succ, Nat.mod_mul, h1, h2]; simp

set_option maxHeartbeats 400000 in
theorem rcheck_any (A : Option Addr) (n c : Nat) (N : Int) (bytes : List Int) (w : World) (ha : Row .u8 w A n bytes) (hb : Within 0 255 bytes) (hn : n ≤ 9223372036854775807) :
    Calls Tryd.prog 12 #[.agg #[.slice A n c, .int .i64 N]] w fun e w' => e = .returned (.int .i64 (chkB bytes N)) ∧ Below w.heap.size w w' := by
  have HX := Lib.hid ha.len
  by_cases h1 : N < 0
  · have HE : Hid (chkB bytes N = 8) := by unfold chkB; rw [if_neg (fun h => by have := h.1; omega)]; rfl
    go_enter Tryd.func12, Tryd.ntmps12
    go_wp2
    go_ret
    exact ⟨ret_int HE.out.symm, (Below.refl _ _).alloc (Nat.le_refl _) _⟩
  by_cases h2 : 330000 < N
  · have HE : Hid (chkB bytes N = 8) := by unfold chkB; rw [if_neg (fun h => by have := h.2.1; omega)]; rfl
    go_enter Tryd.func12, Tryd.ntmps12
    go_wp2
    go_ret
    exact ⟨ret_int HE.out.symm, (Below.refl _ _).alloc (Nat.le_refl _) _⟩
  obtain ⟨m, rfl⟩ := Int.eq_ofNat_of_zero_le (by omega : 0 ≤ N)
  have hm : m ≤ 330000 := by omega
  clear h1 h2
  by_cases hl : n = (m + 7) / 8
  · have hl' : ((n : Int) != ((m : Int) + 7) / 8) = false := by simp; omega
    have hn8 : n ≤ 41250 := by omega
    obtain ⟨x, hx, hx8⟩ := byte_nat hb (n - 1)
    have HB : Hid (chkB bytes (m : Nat) = if (0 < m % 8 → x / 2 ^ (m % 8) = 0) then 0 else 8) := by
      have key : Valid bytes (m : Nat) ↔ (0 < m % 8 → x / 2 ^ (m % 8) = 0) := by
        unfold Valid
        rw [HX.out, Int.toNat_natCast, hx, pow_cast, ← Int.natCast_ediv]
        constructor
        · intro h h0; have := h.2.2.2 h0; omega
        · intro h; exact ⟨by omega, by omega, hl, fun h0 => by rw [h h0]; rfl⟩
      unfold chkB
      by_cases hv : Valid bytes (m : Nat)
      · rw [if_pos hv, if_pos (key.1 hv)]; rfl
      · rw [if_neg hv, if_neg (fun h => hv (key.2 h))]; rfl
    have HL := Lib.hid hl
    obtain ⟨w0, hw0⟩ : ∃ w0, w0 = w.alloc (.cells #[.slice A n c, .int .i64 (m : Int)] 26) := ⟨_, rfl⟩
    have z0 : Blk w0 w.heap.size 26 [.slice A n c, .int .i64 (m : Int)] := by rw [hw0]; exact Blk.new w _ _
    have z2 : Below w.heap.size w w0 := by rw [hw0]; exact (Below.refl _ _).alloc (Nat.le_refl _) _
    have z3 : Row .u8 w0 A n bytes := by rw [hw0]; exact ha.alloc _
    clear hl
    go_enter Tryd.func12, Tryd.ntmps12
    go_wp2_with fail
    rw [← hw0]
    clear hw0
    go_loopg [3] (8 * n - m) (fun r v wr => ∃ j : Nat, m + j + r = 8 * n ∧ v = .int .i64 ((m + j : Nat) : Int) ∧ Hid (x / 2 ^ (m % 8) % 2 ^ j = 0) ∧ Below w0.heap.size w0 wr)
    case atStart => exact ⟨0, by have := HL.out; omega, rfl, Lib.hid (by simp [Nat.mod_one]), Below.refl _ _⟩
    case round =>
      obtain ⟨j, hj, rfl, HJ, hbr⟩ := hrel
      have y0 := z0.below hbr z0.lt
      have q0 : wr.cell? ⟨w.heap.size, 0, none⟩ = some (.slice A n c) := by rw [y0.cell]; rfl
      have q1 : wr.cell? ⟨w.heap.size, 1, none⟩ = some (.int .i64 (m : Int)) := by rw [y0.cell]; rfl
      have bb := z2.trans (hbr.mono z2.size)
      by_cases hlt : m + j < 8 * n
      · have hdiv : (m + j) / 8 = n - 1 := by have := HL.out; omega
        have hmod : (m + j) % 8 = m % 8 + j := by have := HL.out; omega
        have hxe : nth bytes ((m + j) / 8) = (x : Int) := by rw [hdiv, hx]
        have hbit : x / 2 ^ ((m + j) % 8) % 2 = x / 2 ^ (m % 8) / 2 ^ j % 2 := by rw [hmod, Nat.pow_add, Nat.div_div_eq_div_mul]
        have hcall := rat_any A n c (m : Int) bytes (m + j) x wr (z3.below hbr) (by omega) hxe hx8 (by omega) hn
        rw [hbit] at hcall
        have HC := Lib.hid hcall
        clear hcall hdiv hmod hxe hbit
        by_cases hz : x / 2 ^ (m % 8) / 2 ^ j % 2 = 0
        · rw [hz] at HC
          have HZ := Lib.hid hz; clear hz
          go_wp2_with fail
          refine HC.out.mono ?_
          rintro e w1 ⟨rfl, b1⟩
          go_wp2
          go_roundg (8 * n - (m + (j + 1)))
          case measure => omega
          case rel => exact ⟨j + 1, by omega, by go_num, Lib.hid (low_zero HJ.out HZ.out), hbr.trans (b1.mono hbr.size)⟩
        · have hz1 : x / 2 ^ (m % 8) / 2 ^ j % 2 = 1 := by omega
          rw [hz1] at HC
          have HE : Hid (chkB bytes (m : Nat) = 8) := by
            have hr : 0 < m % 8 := by have := HL.out; omega
            have h := HB.out
            rw [if_neg (fun h => by rw [h hr] at hz; simp at hz)] at h
            exact h
          clear hz hz1
          go_wp2_with fail
          refine HC.out.mono ?_
          rintro e w1 ⟨rfl, b1⟩
          go_wp2
          go_ret
          exact ⟨ret_int HE.out.symm, bb.trans (b1.mono bb.size)⟩
      · have HE : Hid (chkB bytes (m : Nat) = 0) := by
          have h := HB.out
          rw [if_pos (fun hr => by
            have h1 : x / 2 ^ (m % 8) < 2 ^ j := by
              rw [show j = 8 - m % 8 by have := HL.out; omega]
              rw [Nat.div_lt_iff_lt_mul (Nat.two_pow_pos _), ← Nat.pow_add, show 8 - m % 8 + m % 8 = 8 by omega]; exact hx8
            have := HJ.out
            rwa [Nat.mod_eq_of_lt h1] at this)] at h
          exact h
        go_wp2
        go_ret
        exact ⟨ret_int HE.out.symm, bb⟩
  · have hl' : ((n : Int) != ((m : Int) + 7) / 8) = true := by simp; omega
    have HE : Hid (chkB bytes (m : Nat) = 8) := by
      unfold chkB; rw [if_neg (fun h => hl (by have := h.2.2.1; rw [HX.out, Int.toNat_natCast] at this; exact this))]; rfl
    clear hl
    go_enter Tryd.func12, Tryd.ntmps12
    go_wp2
    go_ret
    exact ⟨ret_int HE.out.symm, (Below.refl _ _).alloc (Nat.le_refl _) _⟩

theorem rcheck_ok (A : Option Addr) (n c : Nat) (bs : List Bool) (w : World) (ha : Row .u8 w A n (pack bs)) (hn : n ≤ 9223372036854775807) (hl : bs.length ≤ 330000) :
    Calls Tryd.prog 12 #[.agg #[.slice A n c, .int .i64 (bs.length : Nat)]] w fun e w' => e = .returned (.int .i64 0) ∧ Below w.heap.size w w' :=
  (rcheck_any A n c (bs.length : Nat) (pack bs) w ha (pack_u8 bs) hn).mono fun e w' h => ⟨by rw [h.1]; unfold chkB; rw [if_pos (valid_pack hl)], h.2⟩

theorem rcheck_bad (A : Option Addr) (n c : Nat) (N : Int) (bytes : List Int) (w : World) (ha : Row .u8 w A n bytes) (hb : Within 0 255 bytes) (hn : n ≤ 9223372036854775807) (hv : ¬ Valid bytes N) :
    Calls Tryd.prog 12 #[.agg #[.slice A n c, .int .i64 N]] w fun e w' => e = .returned (.int .i64 8) ∧ Below w.heap.size w w' :=
  (rcheck_any A n c N bytes w ha hb hn).mono fun e w' h => ⟨by rw [h.1]; unfold chkB; rw [if_neg hv], h.2⟩

end Go.Proofs.YtpohaikbbfochaaDoor

/-
  Contract of the reference's comparison of bits, and of the size that the statements consider.
-/
namespace Go.Proofs.YtpohaikbbfochaaDoor
open Go.RowKit Cad Cad.Bit
set_option linter.unusedVariables false
set_option linter.unusedSimpArgs false

set_option maxHeartbeats 400000 in
theorem rsame_any (A B : Option Addr) (n m c d : Nat) (N M : Int) (xs ys : List Int) (w : World) (ha : Row .u8 w A n xs) (hb : Row .u8 w B m ys) (hx : Within 0 255 xs) (hy : Within 0 255 ys) :
    Calls Tryd.prog 65 #[.agg #[.slice A n c, .int .i64 N], .agg #[.slice B m d, .int .i64 M]] w fun e w' => e = .returned (.bool (decide (N = M ∧ xs = ys))) ∧ Below w.heap.size w w' := by
  by_cases h : N = M
  · subst h
    have s1 : (convert 24 9 (.slice A n c)).run Tryd.prog ((w.alloc (.cells #[.slice A n c, .int .i64 N] 26)).alloc (.cells #[.slice B m d, .int .i64 N] 26)) = .ok (.string (strOfNums xs)) _ := run_str Tryd.underlying24 Tryd.underlying5 Tryd.underlying9 c ((ha.alloc _).alloc _)
    have s2 : (convert 24 9 (.slice B m d)).run Tryd.prog ((w.alloc (.cells #[.slice A n c, .int .i64 N] 26)).alloc (.cells #[.slice B m d, .int .i64 N] 26)) = .ok (.string (strOfNums ys)) _ := run_str Tryd.underlying24 Tryd.underlying5 Tryd.underlying9 d ((hb.alloc _).alloc _)
    go_enter Tryd.func65, Tryd.ntmps65
    go_wp2
    go_ret
    refine ⟨ret_bool ?_, ?_⟩
    · rw [str_eq hx hy]; simp
    · go_grown
  · go_enter Tryd.func65, Tryd.ntmps65
    go_wp2
    go_ret
    refine ⟨ret_bool (decide_eq_false (fun h2 => h h2.1)).symm, ?_⟩
    go_grown
theorem rsame_eq (A B : Option Addr) (n m c d : Nat) (N M : Int) (xs ys : List Int) (w : World) (ha : Row .u8 w A n xs) (hb : Row .u8 w B m ys) (hx : Within 0 255 xs) (hy : Within 0 255 ys) (hN : N = M) (he : xs = ys) :
    Calls Tryd.prog 65 #[.agg #[.slice A n c, .int .i64 N], .agg #[.slice B m d, .int .i64 M]] w fun e w' => e = .returned (.bool true) ∧ Below w.heap.size w w' :=
  (rsame_any A B n m c d N M xs ys w ha hb hx hy).mono fun e w' h => ⟨by rw [h.1, decide_eq_true ⟨hN, he⟩], h.2⟩
theorem rsame_ne (A B : Option Addr) (n m c d : Nat) (N M : Int) (xs ys : List Int) (w : World) (ha : Row .u8 w A n xs) (hb : Row .u8 w B m ys) (hx : Within 0 255 xs) (hy : Within 0 255 ys) (h : ¬ (N = M ∧ xs = ys)) :
    Calls Tryd.prog 65 #[.agg #[.slice A n c, .int .i64 N], .agg #[.slice B m d, .int .i64 M]] w fun e w' => e = .returned (.bool false) ∧ Below w.heap.size w w' :=
  (rsame_any A B n m c d N M xs ys w ha hb hx hy).mono fun e w' hh => ⟨by rw [hh.1, decide_eq_false h], hh.2⟩
/-- Bits that are the same. -/
theorem rsame_bits (A B : Option Addr) (n m c d : Nat) (fs bs : List Bool) (w : World) (ha : Row .u8 w A n (pack fs)) (hb : Row .u8 w B m (pack bs)) (he : fs = bs) :
    Calls Tryd.prog 65 #[.agg #[.slice A n c, .int .i64 (fs.length : Nat)], .agg #[.slice B m d, .int .i64 (bs.length : Nat)]] w fun e w' => e = .returned (.bool true) ∧ Below w.heap.size w w' :=
  rsame_eq A B n m c d _ _ _ _ w ha hb (pack_u8 _) (pack_u8 _) (by rw [he]) (by rw [he])

end Go.Proofs.YtpohaikbbfochaaDoor
