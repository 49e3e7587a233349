/-
  The statement ResumeFeeds: for every input the law returns true, and each argument reads as before. No condition.
-/
import Derived.Test.YtppilidcjlnmoaaDoorFrame
import Derived.Test.YtppilidcjlnmoaaDoorCards
import Derived.Test.YtppilidcjlnmoaaDoorTie
import Derived.LaidMore
import Derived.Lib.LaidTab
import Derived.Stop.Joined
import Derived.SevenTiedAt
import Derived.Test.YtppilidcjlnmoaaDoorLawRF
namespace Go.Proofs.YtppilidcjlnmoaaDoor.resumeFeeds
open Go.ChangeShapes Go.WideShapes Go.ChangeAt Go.RowKit Go.Joins Cad
set_option linter.unusedVariables false

theorem own : ownKnob Tryd.prog.godebug = none := by kernel_rfl
theorem laidOut : laidOutB Tryd.prog = true := by kernel_rfl

theorem gTab : Tryd.prog.globalNamed "math/bits.deBruijn64tab" = some 0 := by kernel_rfl
theorem tTab : (Tryd.prog.globals[0]?).map (·.type) = some 128 := by kernel_rfl
theorem uTab : Tryd.prog.underlying 128 = some (.array 64 5) := by kernel_rfl
def laid1 : List (String × DataW Unit) := [("math/bits.deBruijn64tab", Rows.laid_math_bits_deBruijn64tab)]
theorem door_met (os : Os) (args : Array Value) : laidMetH Tryd.prog laid1 ((World.doorLaid Tryd.prog 400 os).forCall (fun _ _ => 0) ⟨#[], args, []⟩).memory :=
  laidMetH_of_parts3 (fuel := 8) (laidMet_of_run' 8 (by kernel_rfl) (by kernel_rfl)) (by kernel_rfl) (by kernel_rfl)
theorem tab_of_laid {W : World} (h : laidMetH Tryd.prog laid1 W) : Tab W := by
  rw [MakeChecks.laidMetH_plain _ _ _ (by kernel_rfl)] at h
  have hT := Lib.tabIs_of_head (zs := Cad.Bit.dbTab) gTab tTab uTab Tryd.underlying5 (by kernel_rfl) (by kernel_rfl) h
  refine ⟨rfl, fun _ => ⟨0, 0, rfl, ?_, fun j hj => ?_⟩⟩
  · exact Cad.lt_of_cell (hT.cell gTab 0 (by decide))
  · rw [Nat.zero_add]; exact hT.cell gTab j hj

set_option maxRecDepth 100000 in
theorem lifted (os : Os) (started : os.Started) (H : Type) (enc : TypeId × Value → H) :
    ReturnsInHanded {} Tryd.checked os 4 .any (fun w args => (Rows.resumeFeedsSpec.pre enc Tryd.prog Tryd.f4 [] false w args ∧ laidMetH Tryd.prog laid1 w) ∧ sizedMet enc Tryd.prog Tryd.f4 (OpenSpec.ofChange Rows.resumeFeedsSpec) false w args)
      (Rows.resumeFeedsSpec.post enc Tryd.prog Tryd.f4 false true false false) := by
  refine returnsInHanded_of_change_and (C := Tryd.checked) (X := fun w _ => laidMetH Tryd.prog laid1 w) (fun _ _ _ hh h => h.of_heap hh) own started (by kernel_rfl) Tryd.func4
    (ChangeSpec.witness_shaped (enc := enc) (C := Tryd.checked) (os := os) (X := fun w _ => laidMetH Tryd.prog laid1 w) false (World.doorLaid Tryd.prog 400 os) #[.agg #[.int .i64 0, .int .i64 0, .int .i64 0, .int .u64 0, .int .u64 0, .slice none 0 0, .int .i64 0], .slice none 0 0] 8 rfl (World.shaped_of_RefB (by kernel_rfl) (by kernel_rfl)) (by kernel_rfl) (by kernel_rfl) (by kernel_rfl) (door_met os _)) ?_
  intro W base args ds gs before hval0 hW _ _ hL _
  have hval : ∀ (j : Nat) t v, Tryd.f4.params[j]? = some t → args[j]? = some v → Value.okWide Tryd.prog W .any base t v := hval0
  have hW' := hW
  obtain ⟨p, q, hA0, hV, rfl, hfz, hnd⟩ := hW
  have hA : DataW.TrodAll enc Tryd.prog W 0 (fun _ => true) true Tryd.f4.params.toList args.toList ds p := hA0
  rw [Tryd.params4] at hA hval
  obtain ⟨v0, vs0, d0, ds0, p0, q0, hargs, rfl, rfl, h0, r0⟩ := trodAll_cons hA
  obtain ⟨v1, vs1, d1, ds1, p1, q1, rfl, rfl, rfl, h1, r1⟩ := trodAll_cons r0
  obtain ⟨rfl, rfl, rfl⟩ := trodAll_nil r1
  obtain rfl : args = #[v0, v1] := by cases args; simp_all
  obtain ⟨rfl, rfl⟩ := trodVars_none hV
  have k0 := h0
  have lt0 : ∀ x ∈ p0, x.block < W.heap.size := by obtain ⟨m, hm⟩ := k0; exact DataW.trod_lt m _ _ _ hm
  obtain ⟨cs0, rfl, hsz0⟩ := okWide_struct Tryd.underlying40 (hval 0 40 v0 rfl rfl)
  obtain ⟨c00, c01, c02, c03, c04, c05, c06, rfl⟩ := Cad.array7 (hsz0.trans (by kernel_rfl))
  obtain ⟨fuel0, hf0⟩ := h0
  obtain ⟨y00, y01, y02, m0, hx0, _, hy00, hy01, hy02⟩ := Go.Deep.trod_struct3 Tryd.underlying40 hf0
  have hc01 : Tryd.prog.cellsOf 3 = 1 := by kernel_rfl
  have hc02 : Tryd.prog.cellsOf 38 = 4 := by kernel_rfl
  have hc03 : Tryd.prog.cellsOf 24 = 2 := by kernel_rfl
  have hc04 : Tryd.prog.cellsOf 36 = 1 := by kernel_rfl
  have hc05 : Tryd.prog.cellsOf 22 = 1 := by kernel_rfl
  simp [Value.cells, hc01, hc02, hc03] at hy00 hy01 hy02
  obtain ⟨z00, z01, z02, z03, k01, hz01, _, g00, g01, g02, g03⟩ := trod_struct4 Tryd.underlying38 hy01
  obtain ⟨z04, z05, k02, hz02, _, g04, g05⟩ := trod_struct2 Tryd.underlying24 hy02
  simp [hc01, hc04] at g00 g01 g02 g03
  simp [hc01, hc05] at g04 g05
  obtain ⟨n0L, e0L, _, wn0L⟩ := DataW.trod_int Tryd.underlying3 hy00
  simp only [List.cons.injEq, and_true] at e0L
  subst e0L
  obtain ⟨n00, e00, _, wn00⟩ := DataW.trod_int Tryd.underlying3 g00
  simp only [List.cons.injEq, and_true] at e00
  subst e00
  obtain ⟨n01, e01, _, wn01⟩ := DataW.trod_int Tryd.underlying3 g01
  simp only [List.cons.injEq, and_true] at e01
  subst e01
  obtain ⟨n02, e02, _, wn02⟩ := DataW.trod_int Tryd.underlying36 g02
  simp only [List.cons.injEq, and_true] at e02
  subst e02
  obtain ⟨n03, e03, _, wn03⟩ := DataW.trod_int Tryd.underlying36 g03
  simp only [List.cons.injEq, and_true] at e03
  subst e03
  obtain ⟨a0, len0, cap0, z0, rfl, w0, y0⟩ := open_rowv Tryd.underlying22 Tryd.underlying5 (by kernel_rfl) g04
  obtain ⟨n0N, e0N, _, wn0N⟩ := DataW.trod_int Tryd.underlying3 g05
  simp only [List.cons.injEq, and_true] at e0N
  subst e0N
  obtain ⟨a1, len1, cap1, rfl⟩ := okWide_slice Tryd.underlying22 (hval 1 22 v1 rfl rfl)
  have k1 := h1
  have lt1 : ∀ x ∈ p1, x.block < W.heap.size := by obtain ⟨m, hm⟩ := k1; exact DataW.trod_lt m _ _ _ hm
  obtain ⟨z1, w1, y1⟩ : ∃ xs, RowC .u8 W a1 len1 cap1 xs ∧ ∀ n ∈ xs, (Lit.int .u8 n).wf = true := by
    obtain ⟨fuel, hf⟩ := h1
    exact open_rowc Tryd.underlying22 Tryd.underlying5 (by kernel_rfl) (by simpa [Value.cells] using hf)
  clear hA0 hval0
  refine (lawResumeFeeds W (tab_of_laid hL) n0L n00 n01 n02 n03 (bounds_i64 wn0L) (bounds_i64 wn00) (bounds_i64 wn01) (bounds_u64 wn02) (bounds_u64 wn03) a0 len0 cap0 n0N z0 w0 (wf_u8 y0) (bounds_i64 wn0N) a1 len1 cap1 z1 w1 (wf_u8 y1)).mono fun e W' ⟨he, bel⟩ => ?_
  subst he
  exact ⟨_, rfl, _, _, _, [], _, [], hW', trodAll_mk1 (shut_bool Tryd.underlying4 _), (trodAll_cons_mk (Below.trod laidOut (by kernel_rfl) (of_decide_eq_true (by kernel_rfl)) k0 bel lt0) (trodAll_cons_mk (Below.trod laidOut (by kernel_rfl) (of_decide_eq_true (by kernel_rfl)) k1 bel lt1) trodAll_mk0)), rfl, bel.frame _, fun h => by cases h⟩

theorem over : Rows.resumeFeedsRow.holds Tryd.pinned (OpenSpec.ofChange Rows.resumeFeedsSpec) :=
  OpenClaim.holds_of_wide 4 Tryd.f4 rfl rfl rfl rfl rfl rfl rfl ⟨rfl, rfl, rfl, rfl, rfl⟩ rfl rfl rfl rfl rfl (by kernel_rfl) Tryd.func4 (by kernel_rfl)
    (of_decide_eq_true (by kernel_rfl)) (by unfold Func.isWrapper; first | (rw [if_pos (by decide +kernel)]; kernel_rfl) | (rw [if_neg (by decide +kernel)]; exact ⟨rfl, rfl⟩))
    (fun os started H enc _ => lifted os started H enc)


theorem proved : Rows.ResumeFeedsCardSaid :=
  Claim7.holds_tied_plain_at .later [] [.data] true (true, "b93b95efea11ce6f059c2d6c947f371bdc12842c90e91af992d596c7efa3e645") false
    over (fun _ h => by cases h) (by kernel_rfl) (fun _ h => by cases h) resumeFeeds_row_tie rfl ⟨rfl, rfl⟩ (by kernel_rfl) rfl
    (fun f fn hf hfn => by
      obtain rfl : f = 4 := Option.some.inj ((show Tryd.prog.funcNamed "cadenza/cadenzalaw10.ResumeFeeds" = some 4 by kernel_rfl).symm.trans hf) |>.symm
      obtain rfl : fn = Tryd.f4 := (Option.some.inj (Tryd.func4.symm.trans hfn)).symm
      exact ⟨by kernel_rfl, fun j t ht => by
        rw [Tryd.params4] at ht
        have hm : t ∈ [40, 22] := by simpa using Array.mem_of_getElem? ht
        have hall : ([40, 22].all fun u => !Tryd.prog.wantsStandIn u) = true := by kernel_rfl
        exact (show Tryd.prog.wantsStandIn t = false by simpa using List.all_eq_true.1 hall t hm)⟩)
    (by kernel_rfl)
#print axioms proved
end Go.Proofs.YtppilidcjlnmoaaDoor.resumeFeeds
