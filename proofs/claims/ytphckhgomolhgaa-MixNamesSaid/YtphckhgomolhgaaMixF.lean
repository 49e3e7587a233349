/-
  Contracts of mixing and unmixing one moment, and of the statements' own helpers.
-/
import Derived.Test.YtphckhgomolhgaaMixE
namespace Go.Proofs.Ytphckhgomolhgaa
open Go.RowKit Cad Cad.Mix
set_option linter.unusedVariables false

def oneE (n : Nat) : Int := if 1 ≤ n ∧ n ≤ 6 then 0 else 2
def oneR (f : List Int → List Int) (xs : List Int) : List Int := if 1 ≤ xs.length ∧ xs.length ≤ 6 then f xs else []
theorem chk_one {n : Nat} (h : 1 ≤ n ∧ n ≤ 6) : chk (n : Int) n = 0 := by
  unfold chk; rw [if_neg (by omega), if_neg (by omega), if_pos (Int.emod_self)]
theorem chk_not_one {n : Nat} (h : ¬ (1 ≤ n ∧ n ≤ 6)) : chk (n : Int) n = 2 := by
  unfold chk; rw [if_pos (by omega)]
theorem oneR_eq {f : List Int → List Int} {xs : List Int} {n : Nat} (hx : xs.length = n) (h : 1 ≤ n ∧ n ≤ 6) : oneR f xs = allR f (n : Int) xs := by
  unfold oneR allR; rw [hx, if_pos h, if_pos (chk_one h), Int.toNat_natCast, Nat.div_self (by omega)]
  show f xs = [] ++ f _
  rw [List.nil_append, Nat.zero_mul, List.drop_zero, List.take_of_length_le (by omega)]

set_option maxHeartbeats 400000 in
theorem mix1_any (A : Option Addr) (n c : Nat) (xs : List Int) (w : World) (ha : Row .i32 w A n xs) (hn : n ≤ 4100) (hx32 : I32 xs) :
    Calls Try.prog 16 #[.slice A n c] w fun e w' => ∃ B m d, e = .returned (.tuple #[.slice B m d, .int .i64 (oneE n)]) ∧ RowC .i32 w' B m d (oneR mixL xs) ∧ Below w.heap.size w w' := by
  have HX := Lib.hid ha.len
  by_cases h : 1 ≤ n ∧ n ≤ 6
  · have hz := chk_one h
    have hz' : (chk (n : Int) n != 0) = false := by rw [hz]; rfl
    have HE : Hid (oneE n = 0) := by unfold oneE; rw [if_pos h]; rfl
    have HR : Hid (oneR mixL xs = allR mixL (n : Int) xs) := oneR_eq HX.out h
    have HZ := Lib.hid hz; clear hz
    go_enter Try.func16, Try.ntmps16
    go_wp2_with fail
    refine (check_any _ _ _ _ _ (by omega)).mono ?_
    rintro e w' ⟨rfl, rfl⟩
    go_wp2_with fail
    refine (all_any _ _ _ _ xs _ ha hn hx32).mono ?_
    rintro e w1 ⟨B, m, d, rfl, hrow, hbel⟩
    go_wp2
    go_ret2
    refine ⟨B, m, d, ?_, by rw [HR.out]; exact hrow, hbel⟩
    rw [HE.out]; show _ = Ending.returned (.tuple #[.slice B m d, .int .i64 0]); rw [← HZ.out]; rfl
  · have hz := chk_not_one h
    have hz' : (chk (n : Int) n != 0) = true := by rw [hz]; rfl
    have HE : Hid (oneE n = 2) := by unfold oneE; rw [if_neg h]; rfl
    have HR : Hid (oneR mixL xs = []) := by unfold oneR; rw [HX.out, if_neg h]; rfl
    have HZ := Lib.hid hz; clear hz
    go_enter Try.func16, Try.ntmps16
    go_wp2_with fail
    refine (check_any _ _ _ _ _ (by omega)).mono ?_
    rintro e w' ⟨rfl, rfl⟩
    go_wp2
    go_ret2
    refine ⟨none, 0, 0, ?_, by rw [HR.out]; exact RowC.nil, Below.refl _ _⟩
    rw [HE.out]; show _ = Ending.returned (.tuple #[.slice none 0 0, .int .i64 2]); rw [← HZ.out]; rfl

set_option maxHeartbeats 400000 in
theorem refmix1_any (A : Option Addr) (n c : Nat) (xs : List Int) (w : World) (ha : Row .i32 w A n xs) (hn : n ≤ 4100) (hx32 : I32 xs) :
    Calls Try.prog 17 #[.slice A n c] w fun e w' => ∃ B m d, e = .returned (.tuple #[.slice B m d, .int .i64 (oneE n)]) ∧ RowC .i32 w' B m d (oneR mixL xs) ∧ Below w.heap.size w w' := by
  have HX := Lib.hid ha.len
  by_cases h : 1 ≤ n ∧ n ≤ 6
  · obtain ⟨h1, h6⟩ := h
    have HE : Hid (oneE n = 0) := by unfold oneE; rw [if_pos ⟨h1, h6⟩]; rfl
    have HR : Hid (oneR mixL xs = mixL xs) := by unfold oneR; rw [HX.out, if_pos ⟨h1, h6⟩]; rfl
    go_enter Try.func17, Try.ntmps17
    go_wp2_with fail
    refine (mixed_any A n c xs _ ha (by omega) (by omega) hx32).mono ?_
    rintro e w1 ⟨B, d, rfl, hown, hbel⟩
    go_wp2
    go_ret2
    exact ⟨B, _, d, by rw [HE.out]; rfl, by rw [HR.out]; exact hown.rowC, hbel⟩
  · have HE : Hid (oneE n = 2) := by unfold oneE; rw [if_neg h]; rfl
    have HR : Hid (oneR mixL xs = []) := by unfold oneR; rw [HX.out, if_neg h]; rfl
    by_cases h1 : n < 1
    · clear h
      go_enter Try.func17, Try.ntmps17
      go_wp2
      go_ret2
      exact ⟨none, 0, 0, by rw [HE.out]; rfl, by rw [HR.out]; exact RowC.nil, Below.refl _ _⟩
    · have h6 : 6 < n := by omega
      clear h
      go_enter Try.func17, Try.ntmps17
      go_wp2
      go_ret2
      exact ⟨none, 0, 0, by rw [HE.out]; rfl, by rw [HR.out]; exact RowC.nil, Below.refl _ _⟩

set_option maxHeartbeats 400000 in
theorem unmix1_any (A : Option Addr) (n c : Nat) (xs : List Int) (w : World) (ha : Row .i32 w A n xs) (hn : n ≤ 4100) (hx32 : I32 xs) :
    Calls Try.prog 18 #[.slice A n c] w fun e w' => ∃ B m d, e = .returned (.tuple #[.slice B m d, .int .i64 (oneE n)]) ∧ RowC .i32 w' B m d (oneR unL xs) ∧ Below w.heap.size w w' := by
  have HX := Lib.hid ha.len
  by_cases h : 1 ≤ n ∧ n ≤ 6
  · have hz := chk_one h
    have hz' : (chk (n : Int) n != 0) = false := by rw [hz]; rfl
    have HE : Hid (oneE n = 0) := by unfold oneE; rw [if_pos h]; rfl
    have HR : Hid (oneR unL xs = allR unL (n : Int) xs) := oneR_eq HX.out h
    have HZ := Lib.hid hz; clear hz
    go_enter Try.func18, Try.ntmps18
    go_wp2_with fail
    refine (check_any _ _ _ _ _ (by omega)).mono ?_
    rintro e w' ⟨rfl, rfl⟩
    go_wp2_with fail
    refine (undo_any _ _ _ _ xs _ ha hn hx32).mono ?_
    rintro e w1 ⟨B, m, d, rfl, hrow, hbel⟩
    go_wp2
    go_ret2
    refine ⟨B, m, d, ?_, by rw [HR.out]; exact hrow, hbel⟩
    rw [HE.out]; show _ = Ending.returned (.tuple #[.slice B m d, .int .i64 0]); rw [← HZ.out]; rfl
  · have hz := chk_not_one h
    have hz' : (chk (n : Int) n != 0) = true := by rw [hz]; rfl
    have HE : Hid (oneE n = 2) := by unfold oneE; rw [if_neg h]; rfl
    have HR : Hid (oneR unL xs = []) := by unfold oneR; rw [HX.out, if_neg h]; rfl
    have HZ := Lib.hid hz; clear hz
    go_enter Try.func18, Try.ntmps18
    go_wp2_with fail
    refine (check_any _ _ _ _ _ (by omega)).mono ?_
    rintro e w' ⟨rfl, rfl⟩
    go_wp2
    go_ret2
    refine ⟨none, 0, 0, ?_, by rw [HR.out]; exact RowC.nil, Below.refl _ _⟩
    rw [HE.out]; show _ = Ending.returned (.tuple #[.slice none 0 0, .int .i64 2]); rw [← HZ.out]; rfl

set_option maxHeartbeats 400000 in
theorem refunmix1_any (A : Option Addr) (n c : Nat) (xs : List Int) (w : World) (ha : Row .i32 w A n xs) (hn : n ≤ 4100) (hx32 : I32 xs) :
    Calls Try.prog 19 #[.slice A n c] w fun e w' => ∃ B m d, e = .returned (.tuple #[.slice B m d, .int .i64 (oneE n)]) ∧ RowC .i32 w' B m d (oneR unL xs) ∧ Below w.heap.size w w' := by
  have HX := Lib.hid ha.len
  by_cases h : 1 ≤ n ∧ n ≤ 6
  · obtain ⟨h1, h6⟩ := h
    have HE : Hid (oneE n = 0) := by unfold oneE; rw [if_pos ⟨h1, h6⟩]; rfl
    have HR : Hid (oneR unL xs = unL xs) := by unfold oneR; rw [HX.out, if_pos ⟨h1, h6⟩]; rfl
    obtain ⟨j, rfl⟩ : ∃ j, n = j + 1 := ⟨n - 1, by omega⟩
    go_enter Try.func19, Try.ntmps19
    go_wp2_with fail
    refine (unmixed_any A j c xs _ ha (by omega) hx32).mono ?_
    rintro e w1 ⟨B, d, rfl, hown, hbel⟩
    go_wp2
    go_ret2
    exact ⟨B, _, d, by rw [HE.out]; rfl, by rw [HR.out]; exact hown.rowC, hbel⟩
  · have HE : Hid (oneE n = 2) := by unfold oneE; rw [if_neg h]; rfl
    have HR : Hid (oneR unL xs = []) := by unfold oneR; rw [HX.out, if_neg h]; rfl
    by_cases h1 : n < 1
    · clear h
      go_enter Try.func19, Try.ntmps19
      go_wp2
      go_ret2
      exact ⟨none, 0, 0, by rw [HE.out]; rfl, by rw [HR.out]; exact RowC.nil, Below.refl _ _⟩
    · have h6 : 6 < n := by omega
      clear h
      go_enter Try.func19, Try.ntmps19
      go_wp2
      go_ret2
      exact ⟨none, 0, 0, by rw [HE.out]; rfl, by rw [HR.out]; exact RowC.nil, Below.refl _ _⟩

set_option maxHeartbeats 400000 in
theorem becomes_any (A B : Option Addr) (n m c d : Nat) (xs ys : List Int) (w : World) (ha : Row .i32 w A n xs) (hb : Row .i32 w B m ys) (h1 : 1 ≤ n ∧ n ≤ 6) (h2 : 1 ≤ m ∧ m ≤ 6) (hx32 : I32 xs) (hy32 : I32 ys)
    (he : mixL xs = ys) (hf : unL ys = xs) :
    Calls Try.prog 20 #[.slice A n c, .slice B m d] w fun e w' => e = .returned (.bool true) ∧ Below w.heap.size w w' := by
  have E1 : Hid (oneR mixL xs = ys) := by unfold oneR; rw [ha.len, if_pos h1]; exact he
  have E2 : Hid (oneR unL ys = xs) := by unfold oneR; rw [hb.len, if_pos h2]; exact hf
  have E3 : oneE n = 0 := by unfold oneE; rw [if_pos h1]
  have E4 : oneE m = 0 := by unfold oneE; rw [if_pos h2]
  clear he hf
  go_enter Try.func20, Try.ntmps20
  go_wp2_with fail
  refine (mix1_any A n c xs _ ha (by omega) hx32).mono ?_
  rintro e w1 ⟨B1, m1, d1, rfl, hr1, hb1⟩
  rw [E3]
  have hB1 := hb.below hb1
  go_wp2_with fail
  refine (unmix1_any B m d ys _ hB1 (by omega) hy32).mono ?_
  rintro e w2 ⟨B2, m2, d2, rfl, hr2, hb2⟩
  rw [E4]
  have hl1 : m1 ≤ 9223372036854775807 := by have := hr1.2; omega
  have hl2 : m2 ≤ 9223372036854775807 := by have := hr2.2; omega
  have e1 : decide (oneR mixL xs = ys) = true := decide_eq_true E1.out
  have e2 : decide (oneR unL ys = xs) = true := decide_eq_true E2.out
  have D1 := Lib.hid e1; have D2 := Lib.hid e2
  clear E3 E4 e1 e2
  go_wp2_with fail
  refine (same_any B1 B m1 m d1 d _ ys _ (hr1.row.below hb2) (hB1.below hb2) hl1 (by omega)).mono ?_
  rintro e w3 ⟨rfl, q3, rfl⟩
  rw [D1.out]
  go_wp2_with fail
  refine (same_any B2 A m2 n d2 c _ xs _ (hr2.row.drewN q3) (((ha.below hb1).below hb2).drewN q3) hl2 (by omega)).mono ?_
  rintro e w4 ⟨rfl, q4, rfl⟩
  rw [D2.out]
  go_wp2
  go_ret
  exact ⟨rfl, below_drewN (hb1.trans (hb2.mono hb1.size)) _⟩

theorem I32_of {l : List Int} (h : l.all (fun x => decide (-2147483648 ≤ x) && decide (x ≤ 2147483647)) = true) : I32 l := fun x hx => by
  have := List.all_eq_true.1 h x hx
  simpa using this

set_option maxHeartbeats 400000 in
theorem alive_any (w : World) : Calls Try.prog 21 #[] w fun e w' => e = .returned (.bool true) ∧ Below w.heap.size w w' := by
  go_enter Try.func21, Try.ntmps21
  go_wp2_with fail
  have r1 : Row .i32 ((w.alloc (.cells #[.int .i32 10, .int .i32 15] 21)).alloc (.cells #[.int .i32 5, .int .i32 13] 21)) (some ⟨w.heap.size, 0, none⟩) 2 [10, 15] := row_fst .i32 w [10, 15] _ _
  have r2 : Row .i32 ((w.alloc (.cells #[.int .i32 10, .int .i32 15] 21)).alloc (.cells #[.int .i32 5, .int .i32 13] 21)) (some ⟨w.heap.size + 1, 0, none⟩) 2 [5, 13] := row_snd .i32 w [5, 13] _ _
  refine (becomes_any _ _ 2 2 2 2 [10, 15] [5, 13] _ r1 r2 (by decide) (by decide) (I32_of (by decide)) (I32_of (by decide)) (by decide +kernel) (by decide +kernel)).mono ?_
  rintro e w1 ⟨rfl, hb1⟩
  have hb1' : Below w.heap.size w w1 := (((Below.refl _ _).alloc (Nat.le_refl _) _).alloc (by simp) _).trans (hb1.mono (by simp; omega))
  clear hb1 r1 r2
  go_wp2_with fail
  have r1 : Row .i32 ((w1.alloc (.cells #[.int .i32 15, .int .i32 10] 21)).alloc (.cells #[.int .i32 (-5), .int .i32 12] 21)) (some ⟨w1.heap.size, 0, none⟩) 2 [15, 10] := row_fst .i32 w1 [15, 10] _ _
  have r2 : Row .i32 ((w1.alloc (.cells #[.int .i32 15, .int .i32 10] 21)).alloc (.cells #[.int .i32 (-5), .int .i32 12] 21)) (some ⟨w1.heap.size + 1, 0, none⟩) 2 [-5, 12] := row_snd .i32 w1 [-5, 12] _ _
  refine (becomes_any _ _ 2 2 2 2 [15, 10] [-5, 12] _ r1 r2 (by decide) (by decide) (I32_of (by decide)) (I32_of (by decide)) (by decide +kernel) (by decide +kernel)).mono ?_
  rintro e w2 ⟨rfl, hb2⟩
  have hb2' : Below w.heap.size w w2 := ((hb1'.alloc hb1'.size _).alloc (by have := hb1'.size; simp; omega) _).trans (hb2.mono (by have := hb1'.size; simp; omega))
  clear hb2 hb1' r1 r2
  go_wp2_with fail
  have r1 : Row .i32 ((w2.alloc (.cells #[.int .i32 1, .int .i32 2, .int .i32 4] 21)).alloc (.cells #[.int .i32 1, .int .i32 2, .int .i32 3] 21)) (some ⟨w2.heap.size, 0, none⟩) 3 [1, 2, 4] := row_fst .i32 w2 [1, 2, 4] _ _
  have r2 : Row .i32 ((w2.alloc (.cells #[.int .i32 1, .int .i32 2, .int .i32 4] 21)).alloc (.cells #[.int .i32 1, .int .i32 2, .int .i32 3] 21)) (some ⟨w2.heap.size + 1, 0, none⟩) 3 [1, 2, 3] := row_snd .i32 w2 [1, 2, 3] _ _
  refine (becomes_any _ _ 3 3 3 3 [1, 2, 4] [1, 2, 3] _ r1 r2 (by decide) (by decide) (I32_of (by decide)) (I32_of (by decide)) (by decide +kernel) (by decide +kernel)).mono ?_
  rintro e w3 ⟨rfl, hb3⟩
  have hb3' : Below w.heap.size w w3 := ((hb2'.alloc hb2'.size _).alloc (by have := hb2'.size; simp; omega) _).trans (hb3.mono (by have := hb2'.size; simp; omega))
  clear hb3 hb2' r1 r2
  go_wp2
  go_ret
  exact ⟨rfl, hb3'⟩

end Go.Proofs.Ytphckhgomolhgaa
