/-
  The walk of MixNames: limits, errors, numbers at both ends.
-/
import Derived.Test.YtphckhgomolhgaaMixH
namespace Go.Proofs.Ytphckhgomolhgaa
open Go.RowKit Cad Cad.Mix
set_option linter.unusedVariables false

theorem I32_zeros (n : Nat) : I32 (zeros n) := fun x hx => by
  unfold zeros at hx; rw [List.eq_of_mem_replicate hx]; decide
theorem row_made (w : World) (n : Nat) (hn : n ≤ 1000000) (t : TypeId) : Row .i32 (w.alloc (.cells (zeroRow .i32 n) t)) (some ⟨w.heap.size, 0, none⟩) n (zeros n) :=
  (Own.mk (base := 0) (rest := []) (c := n) (Nat.zero_le _) (zeros_len n) (by simp) (by simp only [maxLen]; omega) (by rw [List.append_nil]; exact blk_made w .i32 n t)).row

set_option maxHeartbeats 1000000 in
set_option maxRecDepth 100000 in
theorem lawMixNames (w : World) :
    Calls Try.prog 5 #[] w fun e w' => e = .returned (.bool true) ∧ Below w.heap.size w w' := by
  have hmk7 : ∀ W : World, (Instr.makeSlice 22 (.int .i64 7) (.int .i64 7)).run Try.prog W = .ok (.slice (some ⟨W.heap.size, 0, none⟩) 7 7) (W.alloc (.cells (zeroRow .i32 7) 21)) := fun W => run_mk i32E 7 (by omega) .i64 .i64 W
  have hmk4001 : ∀ W : World, (Instr.makeSlice 22 (.int .i64 4001) (.int .i64 4001)).run Try.prog W = .ok (.slice (some ⟨W.heap.size, 0, none⟩) 4001 4001) (W.alloc (.cells (zeroRow .i32 4001) 21)) := fun W => run_mk i32E 4001 (by omega) .i64 .i64 W
  have hmk3 : ∀ W : World, (Instr.makeSlice 22 (.int .i64 3) (.int .i64 3)).run Try.prog W = .ok (.slice (some ⟨W.heap.size, 0, none⟩) 3 3) (W.alloc (.cells (zeroRow .i32 3) 21)) := fun W => run_mk i32E 3 (by omega) .i64 .i64 W
  have hmk4000 : ∀ W : World, (Instr.makeSlice 22 (.int .i64 4000) (.int .i64 4000)).run Try.prog W = .ok (.slice (some ⟨W.heap.size, 0, none⟩) 4000 4000) (W.alloc (.cells (zeroRow .i32 4000) 21)) := fun W => run_mk i32E 4000 (by omega) .i64 .i64 W
  have b0 := Below.refl w.heap.size w
  go_enter Try.func5, Try.ntmps5
  go_wp2_with fail
  refine (mix1_any none 0 0 [] _ Row.nil (by omega) (fun x hx => by cases hx)).mono ?_
  rintro e w1 ⟨B, m, d, rfl, _, c1⟩
  rw [show oneE 0 = 2 from by simp [oneE]]
  have b1 : Below w.heap.size w w1 := b0.trans (c1.mono b0.size)
  clear b0 c1
  go_wp2_with fail
  refine (unmix1_any none 0 0 [] _ Row.nil (by omega) (fun x hx => by cases hx)).mono ?_
  rintro e w2 ⟨B, m, d, rfl, _, c2⟩
  rw [show oneE 0 = 2 from by simp [oneE]]
  have b2 : Below w.heap.size w w2 := b1.trans (c2.mono b1.size)
  clear b1 c2
  go_wp2_with fail
  have r2 := row_made w2 7 (by omega) 21
  refine (mix1_any _ 7 7 (zeros 7) _ r2 (by omega) (I32_zeros 7)).mono ?_
  rintro e w3 ⟨B, m, d, rfl, _, c3⟩
  rw [show oneE 7 = 2 from by simp [oneE]]
  have b3 : Below w.heap.size w w3 := (b2.alloc b2.size _).trans (c3.mono (by have := b2.size; simp; omega))
  clear b2 c3 r2
  go_wp2_with fail
  have r3 := row_made w3 7 (by omega) 21
  refine (unmix1_any _ 7 7 (zeros 7) _ r3 (by omega) (I32_zeros 7)).mono ?_
  rintro e w4 ⟨B, m, d, rfl, _, c4⟩
  rw [show oneE 7 = 2 from by simp [oneE]]
  have b4 : Below w.heap.size w w4 := (b3.alloc b3.size _).trans (c4.mono (by have := b3.size; simp; omega))
  clear b3 c4 r3
  go_wp2_with fail
  refine (all_any 0 none 0 0 [] _ Row.nil (by omega) (fun x hx => by cases hx)).mono ?_
  rintro e w5 ⟨B, m, d, rfl, _, c5⟩
  rw [show chk 0 0 = 2 from by simp [chk]]
  have b5 : Below w.heap.size w w5 := b4.trans (c5.mono b4.size)
  clear b4 c5
  go_wp2_with fail
  have r5 := row_made w5 4001 (by omega) 21
  refine (all_any 7 _ 4001 4001 (zeros 4001) _ r5 (by omega) (I32_zeros 4001)).mono ?_
  rintro e w6 ⟨B, m, d, rfl, _, c6⟩
  rw [show chk 7 4001 = 2 from by simp [chk]]
  have b6 : Below w.heap.size w w6 := (b5.alloc b5.size _).trans (c6.mono (by have := b5.size; simp; omega))
  clear b5 c6 r5
  go_wp2_with fail
  refine (undo_any (-1) none 0 0 [] _ Row.nil (by omega) (fun x hx => by cases hx)).mono ?_
  rintro e w7 ⟨B, m, d, rfl, _, c7⟩
  rw [show chk (-1) 0 = 2 from by simp [chk]]
  have b7 : Below w.heap.size w w7 := b6.trans (c7.mono b6.size)
  clear b6 c7
  go_wp2_with fail
  have r7 := row_made w7 4001 (by omega) 21
  refine (all_any 2 _ 4001 4001 (zeros 4001) _ r7 (by omega) (I32_zeros 4001)).mono ?_
  rintro e w8 ⟨B, m, d, rfl, _, c8⟩
  rw [show chk 2 4001 = 4 from by simp [chk]]
  have b8 : Below w.heap.size w w8 := (b7.alloc b7.size _).trans (c8.mono (by have := b7.size; simp; omega))
  clear b7 c8 r7
  go_wp2_with fail
  have r8 := row_made w8 4001 (by omega) 21
  refine (undo_any 1 _ 4001 4001 (zeros 4001) _ r8 (by omega) (I32_zeros 4001)).mono ?_
  rintro e w9 ⟨B, m, d, rfl, _, c9⟩
  rw [show chk 1 4001 = 4 from by simp [chk]]
  have b9 : Below w.heap.size w w9 := (b8.alloc b8.size _).trans (c9.mono (by have := b8.size; simp; omega))
  clear b8 c9 r8
  go_wp2_with fail
  have r9 := row_made w9 3 (by omega) 21
  refine (all_any 2 _ 3 3 (zeros 3) _ r9 (by omega) (I32_zeros 3)).mono ?_
  rintro e w10 ⟨B, m, d, rfl, _, c10⟩
  rw [show chk 2 3 = 2 from by simp [chk]]
  have b10 : Below w.heap.size w w10 := (b9.alloc b9.size _).trans (c10.mono (by have := b9.size; simp; omega))
  clear b9 c10 r9
  go_wp2_with fail
  have r10 := row_made w10 4000 (by omega) 21
  refine (undo_any 6 _ 4000 4000 (zeros 4000) _ r10 (by omega) (I32_zeros 4000)).mono ?_
  rintro e w11 ⟨B, m, d, rfl, _, c11⟩
  rw [show chk 6 4000 = 2 from by simp [chk]]
  have b11 : Below w.heap.size w w11 := (b10.alloc b10.size _).trans (c11.mono (by have := b10.size; simp; omega))
  clear b10 c11 r10
  go_wp2_with fail
  have r11 := row_made w11 4000 (by omega) 21
  refine (all_ok 5 800 _ 4000 4000 (zeros 4000) _ r11 (by omega) (by omega) (by omega) (by omega) (I32_zeros 4000)).mono ?_
  rintro e w12 ⟨B, d, rfl, _, c12⟩
  have b12 : Below w.heap.size w w12 := (b11.alloc b11.size _).trans (c12.mono (by have := b11.size; simp; omega))
  clear b11 c12 r11
  go_wp2_with fail
  refine (undo_ok 6 0 none 0 0 [] _ Row.nil (by omega) (by omega) (by omega) (by omega) (fun x hx => by cases hx)).mono ?_
  rintro e w13 ⟨B, d, rfl, _, c13⟩
  have b13 : Below w.heap.size w w13 := b12.trans (c13.mono b12.size)
  clear b12 c13 hmk7 hmk4001 hmk3 hmk4000
  go_wp2_with fail
  have r1 : Row .i32 ((w13.alloc (.cells #[.int .i32 (-2147483648), .int .i32 2147483647] 21)).alloc (.cells #[.int .i32 (-1), .int .i32 2147483647] 21)) (some ⟨w13.heap.size, 0, none⟩) 2 [-2147483648, 2147483647] := row_fst .i32 w13 [-2147483648, 2147483647] _ _
  have r2 : Row .i32 ((w13.alloc (.cells #[.int .i32 (-2147483648), .int .i32 2147483647] 21)).alloc (.cells #[.int .i32 (-1), .int .i32 2147483647] 21)) (some ⟨w13.heap.size + 1, 0, none⟩) 2 [-1, 2147483647] := row_snd .i32 w13 [-1, 2147483647] _ _
  refine (becomes_any _ _ 2 2 2 2 [-2147483648, 2147483647] [-1, 2147483647] _ r1 r2 (by decide) (by decide) (I32_of (by decide)) (I32_of (by decide)) (by decide +kernel) (by decide +kernel)).mono ?_
  rintro e w14 ⟨rfl, c14⟩
  have b14 : Below w.heap.size w w14 := ((b13.alloc b13.size _).alloc (by have := b13.size; simp; omega) _).trans (c14.mono (by have := b13.size; simp; omega))
  clear b13 c14 r1 r2
  go_wp2_with fail
  have r1 : Row .i32 ((w14.alloc (.cells #[.int .i32 2147483647, .int .i32 (-2147483648)] 21)).alloc (.cells #[.int .i32 1, .int .i32 (-2147483648)] 21)) (some ⟨w14.heap.size, 0, none⟩) 2 [2147483647, -2147483648] := row_fst .i32 w14 [2147483647, -2147483648] _ _
  have r2 : Row .i32 ((w14.alloc (.cells #[.int .i32 2147483647, .int .i32 (-2147483648)] 21)).alloc (.cells #[.int .i32 1, .int .i32 (-2147483648)] 21)) (some ⟨w14.heap.size + 1, 0, none⟩) 2 [1, -2147483648] := row_snd .i32 w14 [1, -2147483648] _ _
  refine (becomes_any _ _ 2 2 2 2 [2147483647, -2147483648] [1, -2147483648] _ r1 r2 (by decide) (by decide) (I32_of (by decide)) (I32_of (by decide)) (by decide +kernel) (by decide +kernel)).mono ?_
  rintro e w15 ⟨rfl, c15⟩
  have b15 : Below w.heap.size w w15 := ((b14.alloc b14.size _).alloc (by have := b14.size; simp; omega) _).trans (c15.mono (by have := b14.size; simp; omega))
  clear b14 c15 r1 r2
  go_wp2_with fail
  have r1 : Row .i32 ((w15.alloc (.cells #[.int .i32 0, .int .i32 (-2147483648)] 21)).alloc (.cells #[.int .i32 (-2147483648), .int .i32 (-1073741824)] 21)) (some ⟨w15.heap.size, 0, none⟩) 2 [0, -2147483648] := row_fst .i32 w15 [0, -2147483648] _ _
  have r2 : Row .i32 ((w15.alloc (.cells #[.int .i32 0, .int .i32 (-2147483648)] 21)).alloc (.cells #[.int .i32 (-2147483648), .int .i32 (-1073741824)] 21)) (some ⟨w15.heap.size + 1, 0, none⟩) 2 [-2147483648, -1073741824] := row_snd .i32 w15 [-2147483648, -1073741824] _ _
  refine (becomes_any _ _ 2 2 2 2 [0, -2147483648] [-2147483648, -1073741824] _ r1 r2 (by decide) (by decide) (I32_of (by decide)) (I32_of (by decide)) (by decide +kernel) (by decide +kernel)).mono ?_
  rintro e w16 ⟨rfl, c16⟩
  have b16 : Below w.heap.size w w16 := ((b15.alloc b15.size _).alloc (by have := b15.size; simp; omega) _).trans (c16.mono (by have := b15.size; simp; omega))
  clear b15 c16 r1 r2
  go_wp2_with fail
  have r1 : Row .i32 ((w16.alloc (.cells #[.int .i32 (-2147483648)] 21)).alloc (.cells #[.int .i32 (-2147483648)] 21)) (some ⟨w16.heap.size, 0, none⟩) 1 [-2147483648] := row_fst .i32 w16 [-2147483648] _ _
  have r2 : Row .i32 ((w16.alloc (.cells #[.int .i32 (-2147483648)] 21)).alloc (.cells #[.int .i32 (-2147483648)] 21)) (some ⟨w16.heap.size + 1, 0, none⟩) 1 [-2147483648] := row_snd .i32 w16 [-2147483648] _ _
  refine (becomes_any _ _ 1 1 1 1 [-2147483648] [-2147483648] _ r1 r2 (by decide) (by decide) (I32_of (by decide)) (I32_of (by decide)) (by decide +kernel) (by decide +kernel)).mono ?_
  rintro e w17 ⟨rfl, c17⟩
  have b17 : Below w.heap.size w w17 := ((b16.alloc b16.size _).alloc (by have := b16.size; simp; omega) _).trans (c17.mono (by have := b16.size; simp; omega))
  clear b16 c17 r1 r2
  go_wp2_with fail
  refine (alive_any _).mono ?_
  rintro e w18 ⟨rfl, c18⟩
  have b18 : Below w.heap.size w w18 := b17.trans (c18.mono b17.size)
  clear b17 c18
  go_wp2
  go_ret
  exact ⟨rfl, b18⟩

end Go.Proofs.Ytphckhgomolhgaa
