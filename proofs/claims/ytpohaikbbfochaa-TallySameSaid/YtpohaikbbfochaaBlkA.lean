/-
  Contracts of the library's Grow, Concat, Equal for bytes.
-/
import Derived.Test.YtpohaikbbfochaaLeA
namespace Go.Proofs.Ytpohaikbbfochaa
open Go.RowKit Cad Cad.Crc Cad.Le Cad.Bit
set_option linter.unusedVariables false
set_option linter.unusedSimpArgs false

set_option maxHeartbeats 400000 in
theorem grow_nil (n : Nat) (w : World) (hn : n ≤ 900000) :
    Calls Try.prog 61 #[.slice none 0 0, .int .i64 (n : Int)] w fun e w' => ∃ B d, e = .returned (.slice B 0 d) ∧ Own w' w.heap.size 5 .u8 B 0 d [] ∧ Below w.heap.size w w' := by
  have a1 : ¬ (n : Int) < 0 := by omega
  by_cases h : n = 0
  · subst h
    go_enter Try.func61, Try.ntmps61
    go_wp2
    go_ret
    exact ⟨none, 0, rfl, Own.nil _ _ _ _, Below.refl _ _⟩
  · have hpos : 0 < (n : Int) := by omega
    have hmk : ∀ W, (Instr.makeSlice 52 (.int .i64 (n : Int)) (.int .i64 (n : Int))).run Try.prog W = .ok (.slice (some ⟨W.heap.size, 0, none⟩) n n) (W.alloc (.cells (zeroRow .u8 n) 5)) := fun W => run_mk u8E n (by omega) .i64 .i64 W
    go_enter Try.func61, Try.ntmps61
    have hb : (Try.t5).bytes = 1 := rfl
    have hc : ¬ 281474976710656 < Builtin.nextslicecap n 0 * (Try.t5).bytes := by
      unfold Builtin.nextslicecap; rw [if_pos (by omega), hb]; omega
    have hc2 : (n : Int) * ((Try.t5).bytes : Int) ≤ 281474976710656 := by rw [hb]; omega
    have hc3 : ¬ 281474976710656 < (n : Int) * ((Try.t5).bytes : Int) := by omega
    obtain ⟨q, hq⟩ : ∃ q, (Question.appendCap n 0 5).cut (w.tape w.drawn (Question.appendCap n 0 5)) = q := ⟨_, rfl⟩
    have hq1 : n ≤ q ∧ q ≤ maxLen := by
      rw [← hq]; unfold Question.cut
      have := Nat.mod_lt (w.tape w.drawn (Question.appendCap n 0 5)) (show 0 < 2 ^ 63 - n by omega)
      simp only [maxLen]
      omega
    clear hb
    go_wp2_with fail
    clear hc hc2 hc3
    go_ret
    have hs : (Builtin.zeroCells #[Value.int IntKind.u8 0] n ++ Builtin.zeroCells #[Value.int IntKind.u8 0] (q - n)).size = q := by
      unfold Builtin.zeroCells; simp; omega
    refine ⟨some ⟨w.heap.size, 0, none⟩, q, rfl, ?_, ((Below.refl _ _).alloc (Nat.le_refl _) _).drew⟩
    refine Own.mk (rest := (Builtin.zeroCells #[Value.int IntKind.u8 0] n ++ Builtin.zeroCells #[Value.int IntKind.u8 0] (q - n)).toList) (Nat.le_refl _) rfl (by rw [Array.length_toList, hs]; omega) hq1.2 ?_
    have h := Blk.new w 5 (Builtin.zeroCells #[Value.int IntKind.u8 0] n ++ Builtin.zeroCells #[Value.int IntKind.u8 0] (q - n)).toList
    exact h

set_option maxHeartbeats 400000 in
theorem concat_ok (g : Nat) (A : Option Addr) (n c : Nat) (xs : List Int) (B : Option Addr) (m d : Nat) (ys : List Int) (w : World) (ha : Row .u8 w A n xs) (hb : Row .u8 w B m ys) (hn : n ≤ 800000) (hm : m ≤ 8)
    (h0 : w.cell? ⟨g, 0, none⟩ = some (.slice A n c)) (h1 : w.cell? ⟨g, 1, none⟩ = some (.slice B m d)) (hg : g < w.heap.size) :
    Calls Try.prog 47 #[.slice (some ⟨g, 0, none⟩) 2 2] w fun e w' => ∃ C q, e = .returned (.slice C (n + m) q) ∧ Own w' w.heap.size 5 .u8 C (n + m) q (xs ++ ys) ∧ Below w.heap.size w w' := by
  go_enter Try.func47, Try.ntmps47
  go_wp2_with fail
  go_loopg [3, 11] 2 (fun r v i wr => wr = w ∧ ((r = 2 ∧ i = .int .i64 0 ∧ v = .int .i64 0) ∨ (r = 1 ∧ i = .int .i64 1 ∧ v = .int .i64 (n : Int)) ∨ (r = 0 ∧ i = .int .i64 2 ∧ v = .int .i64 ((n + m : Nat) : Int))))
  case atStart => exact ⟨rfl, .inl ⟨rfl, rfl, rfl⟩⟩
  case round =>
    obtain ⟨hww, hrel⟩ := hrel
    have hww' := hww.symm
    subst hww'
    clear hww
    obtain ⟨hr, rfl, rfl⟩ | ⟨hr, rfl, rfl⟩ | ⟨hr, rfl, rfl⟩ := hrel
    · have hnn : ¬ (n : Int) < 0 := by omega
      go_wp2
      go_roundg 1
      case measure => omega
      case rel => exact ⟨rfl, .inr (.inl ⟨rfl, rfl, rfl⟩)⟩
    · have hnn : ¬ (n : Int) + (m : Int) < 0 := by omega
      go_wp2
      go_roundg 0
      case measure => omega
      case rel => exact ⟨rfl, .inr (.inr ⟨rfl, rfl, by go_num⟩)⟩
    · go_wp2_with fail
      refine (grow_nil (n + m) w (by omega)).mono ?_
      rintro e w1 ⟨C, q, rfl, hown, hbel⟩
      go_wp2_with fail
      go_loopg [6, 27] 2 (fun r v i wr => Below w.heap.size w wr ∧ ∃ C q, ((r = 2 ∧ i = .int .i64 0 ∧ v = .slice C 0 q ∧ Own wr w.heap.size 5 .u8 C 0 q []) ∨ (r = 1 ∧ i = .int .i64 1 ∧ v = .slice C n q ∧ Own wr w.heap.size 5 .u8 C n q xs) ∨ (r = 0 ∧ i = .int .i64 2 ∧ v = .slice C (n + m) q ∧ Own wr w.heap.size 5 .u8 C (n + m) q (xs ++ ys))))
      case atStart => exact ⟨hbel, C, q, .inl ⟨rfl, rfl, rfl, hown⟩⟩
      case round =>
        clear hown hbel
        obtain ⟨hbw, C, q, hrel⟩ := hrel
        have hsz := hbw.size
        have k0 : wr.cell? ⟨g, 0, none⟩ = some (.slice A n c) := by rw [hbw.cell hg]; exact h0
        have k1 : wr.cell? ⟨g, 1, none⟩ = some (.slice B m d) := by rw [hbw.cell hg]; exact h1
        have ra := ha.below hbw
        have rb := hb.below hbw
        obtain ⟨hr, rfl, rfl, hown⟩ | ⟨hr, rfl, rfl, hown⟩ | ⟨hr, rfl, rfl, hown⟩ := hrel
        · go_wp2_with (at_builtin; refine wpList_app _ u8E rfl _ _ rfl w.heap.size _ _ _ [] rfl hown _ _ _ xs rfl ra (by omega) hsz ?_)
          intro C' q' w2 hown2 hg2 _
          try rw [Nat.zero_add] at hown2
          try rw [List.nil_append] at hown2
          have hb2 := hbw.trans (below_of_own hown hg2 hsz)
          clear hg2 hown
          go_wp2
          go_roundg 1
          case measure => omega
          case rel => exact ⟨hb2, C', q', .inr (.inl ⟨rfl, rfl, by go_num, hown2⟩)⟩
        · go_wp2_with (at_builtin; refine wpList_app _ u8E rfl _ _ rfl w.heap.size _ _ _ xs rfl hown _ _ _ ys rfl rb (by omega) hsz ?_)
          intro C' q' w2 hown2 hg2 _
          have hb2 := hbw.trans (below_of_own hown hg2 hsz)
          clear hg2 hown
          go_wp2
          go_roundg 0
          case measure => omega
          case rel => exact ⟨hb2, C', q', .inr (.inr ⟨rfl, rfl, rfl, hown2⟩)⟩
        · go_wp2
          go_ret
          exact ⟨C, q, rfl, hown, hbw⟩

end Go.Proofs.Ytpohaikbbfochaa
