/-
  Contract of the closure of resume.Feed.
-/
import Derived.Test.YtppilidcjlnmoaaDoorCodM
namespace Go.Proofs.YtppilidcjlnmoaaDoor
open Go.RowKit Cad Cad.Bit Cad.Code
set_option linter.unusedVariables false
set_option linter.unusedSimpArgs false


/-- What the closure of Feed ends in. -/
def Reads (w : World) (base gs gl : Nat) (B : Option Addr) (ys : List Int) (g : Fed) (e : Ending) (w' : World) : Prop :=
  Frm (fun k => k = gs ∨ k = gl ∨ blockOf B = some k) w w' ∧ match g with
    | .ok vs n d r => ∃ (p0 p1 q0 q1 m c k dd : Nat) (A B' : Option Addr) (bs : List Bool) (zs : List Int), e = .returned (.int .i64 0) ∧ Hid ((⟨p0, p1, q0, q1⟩ : Dual) = d) ∧ Blk w' gs 40 [.int .i64 (n : Int), .int .i64 (p0 : Int), .int .i64 (p1 : Int), .int .u64 (q0 : Int), .int .u64 (q1 : Int), .slice A m c, .int .i64 ((bs.length : Nat) : Int)] ∧ (m ≤ c ∧ c ≤ 9223372036854775807) ∧ Hid (bs = r) ∧ RowIn .u8 w' w.heap.size w'.heap.size A m (pack bs) ∧ Blk w' gl 27 [.slice B' k dd] ∧ Own w' base 55 .u32 B' k dd zs ∧ Hid (zs = ys ++ ints vs) ∧ (∀ i, blockOf B' = some i → i < w.heap.size → blockOf B = some i)
    | .err er => e = .returned (.int .i64 (er : Int))

set_option maxRecDepth 100000 in
set_option maxHeartbeats 4000000 in
theorem feed1_any (base gs gl n x0 x1 y0 y1 m c j d lo hi : Nat) (A B : Option Addr) (bs : List Bool) (ys : List Int) (w : World) (hdk : Dual.Ok ⟨x0, x1, y0, y1⟩) (hn : n ≤ 4000) (hj : j ≤ 8000) (hl : bs.length ≤ 1000) (hc : m ≤ c ∧ c ≤ 9223372036854775807)
    (hs : Blk w gs 40 [.int .i64 (n : Int), .int .i64 (x0 : Int), .int .i64 (x1 : Int), .int .u64 (y0 : Int), .int .u64 (y1 : Int), .slice A m c, .int .i64 ((bs.length : Nat) : Int)]) (hlb : Blk w gl 27 [.slice B j d]) (hown : Own w base 55 .u32 B j d ys) (hra : RowIn .u8 w lo hi A m (pack bs)) (hgs : gs < lo ∨ hi ≤ gs) (hgl : gl < lo ∨ hi ≤ gl) (hlo : ∀ k, blockOf B = some k → k < lo ∨ hi ≤ k) (hne : gs ≠ gl) (hbs : base ≤ gs) (hbl : base ≤ gl) (hbase : base ≤ w.heap.size) (hhi : hi ≤ w.heap.size) (ht : Tab w) (htb : 0 < base) (htt : 0 < base) :
    Calls Tryd.prog 53 #[.pointer (some ⟨gs, 0, none⟩), .pointer (some ⟨gl, 0, none⟩)] w (Reads w base gs gl B ys (feed n ⟨x0, x1, y0, y1⟩ bs)) := by
  have hti : RowIn .u8 w 0 base (some ⟨0, 0, none⟩) 64 dbTab := by
    refine ⟨ht.rowIn.1, fun h => ?_⟩
    obtain ⟨b, off, e, h1, h2, h3⟩ := ht.rowIn.2 h
    exact ⟨b, off, e, Nat.zero_le _, by injection e with e; injection e with e _ _; omega, h3⟩
  obtain ⟨G, HG⟩ : ∃ G, Hid (G = feed n ⟨x0, x1, y0, y1⟩ bs) := ⟨_, Lib.hid rfl⟩
  rw [← HG.out]
  have HJ := Lib.hid hown.len
  have HOW : Hid (∀ k, blockOf B = some k → base ≤ k) := Lib.hid (fun k h => (hown.block k h).1)
  have HLO := Lib.hid hlo
  clear hlo
  have ks := hs.cell; have fs := hs.frozen; have ls := hs.lt; have kl := hlb.cell; have fl := hlb.frozen; have ll := hlb.lt

  go_enter Tryd.func53, Tryd.ntmps53
  go_wp2_with fail
  go_loopg [3] n (fun k va wr => ∃ (a p0 p1 q0 q1 jj dd : Nat) (B' : Option Addr) (us : List Nat) (zs : List Int), va = .int .i64 (a : Nat) ∧ a ≤ bs.length ∧ jj ≤ j + us.length ∧ us.length + k ≤ n ∧ n ≤ us.length + k ∧ Hid (Dual.Ok ⟨p0, p1, q0, q1⟩) ∧ Hid (G = (feed k ⟨p0, p1, q0, q1⟩ (bs.drop a)).app us) ∧ Hid (zs = ys ++ ints us) ∧ Own wr base 55 .u32 B' jj dd zs ∧ Blk wr gs 40 [.int .i64 (k : Int), .int .i64 (p0 : Int), .int .i64 (p1 : Int), .int .u64 (q0 : Int), .int .u64 (q1 : Int), .slice A m c, .int .i64 ((bs.length : Nat) : Int)] ∧ Blk wr gl 27 [.slice B' jj dd] ∧ RowIn .u8 wr lo hi A m (pack bs) ∧ Frm (fun k => k = gs ∨ k = gl ∨ blockOf B = some k) w wr ∧ Hid (∀ i, blockOf B' = some i → i < w.heap.size → blockOf B = some i))
  case atStart =>
    exact ⟨0, x0, x1, y0, y1, j, d, B, [], ys, rfl, by omega, by simp, by simp, by simp, Lib.hid hdk, Lib.hid (by rw [HG.out, Fed.app_nil, List.drop_zero]), Lib.hid (by simp [ints]), hown, hs, hlb, hra, Frm.refl _ _, Lib.hid (fun _ h _ => h)⟩
  case round =>
    obtain ⟨a, p0, p1, q0, q1, jj, dd, B', us, zs, rfl, haL, hjj, hus, hus2, HPO, HGG, HZ, own5, zs_5, zl_5, ra_5, fr5, HB5⟩ := hrel
    clear hs hlb hown hra ks fs ls kl fl ll HG hdk
    have ks_5 := zs_5.cell; have fs_5 := zs_5.frozen; have ls_5 := zs_5.lt; have kl_5 := zl_5.cell; have fl_5 := zl_5.frozen; have ll_5 := zl_5.lt
    have s5 := fr5.size
    have bw5 : Below base w wr := fr5.below hbase (fun k hk h => h.elim (fun h => by omega) (fun h => h.elim (fun h => by omega) (fun h => absurd (HOW.out k h) (by omega))))
    have rt_5 := hti.below bw5 (Nat.le_refl _)
    have hob : ∀ i, blockOf B' = some i → base ≤ i := fun i h => (own5.block i h).1
    have HOB := Lib.hid hob
    clear hob
    by_cases hgt : 0 < gk
    · obtain ⟨r, hkr⟩ : ∃ r, gk = r + 1 := ⟨gk - 1, by omega⟩
      have hgq : 0 < gk := hgt
      have HKR := Lib.hid hkr
      clear hkr
      have hgp : (0 : Int) < (gk : Int) := by omega
      cases hrd : readD (bs.drop a) ⟨p0, p1, q0, q1⟩ with
      | err er =>
        have hee := readD_err HPO.out hrd
        have hg0 := HGG.out
        rw [HKR.out] at hg0
        have HG0 := Lib.hid hg0
        clear hg0
        have HRD : Hid (drR bs (a : Nat) ⟨p0, p1, q0, q1⟩ = (0, 0, ⟨0, 0, 0, 0⟩, (er : Int))) := Lib.hid (by unfold drR; rw [if_neg (by omega), Int.toNat_natCast, hrd]; rfl)
        have HRR := Lib.hid hrd
        clear hrd
        rcases hee with rfl | ⟨rfl, hl81⟩
        · go_wp2_with fail
          refine (dread_c A m c bs (a : Nat) _ (by exact RowIn.row (lo := lo) (hi := hi) (by repeat' (first | (with_reducible assumption) | (with_reducible exact Below.refl _ _) | (with_reducible refine Blk.drewN ?_ _) | (with_reducible refine RowIn.drewN ?_ _) | (with_reducible refine below_drewN ?_ _) | (with_reducible refine Blk.drew ?_) | (with_reducible refine RowIn.drew ?_) | (with_reducible refine Below.drew ?_) | (with_reducible refine Blk.new' ?_ ?_ <;> first | (with_reducible rfl) | (simp; done)) | (with_reducible refine Blk.alloc ?_ _) | (with_reducible refine RowIn.alloc ?_ _) | (with_reducible refine Below.alloc ?_ ?_ _) | (with_reducible apply Blk.set') | (with_reducible apply Blk.far') | (with_reducible refine RowIn.far' ?_ ?_ _) | (with_reducible refine Below.far' ?_ ?_ _) | rfl | omega | go_size))) hc (by omega) (by omega) HPO.out (by exact RowIn.row (lo := 0) (hi := base) (by repeat' (first | (with_reducible assumption) | (with_reducible exact Below.refl _ _) | (with_reducible refine Blk.drewN ?_ _) | (with_reducible refine RowIn.drewN ?_ _) | (with_reducible refine below_drewN ?_ _) | (with_reducible refine Blk.drew ?_) | (with_reducible refine RowIn.drew ?_) | (with_reducible refine Below.drew ?_) | (with_reducible refine Blk.new' ?_ ?_ <;> first | (with_reducible rfl) | (simp; done)) | (with_reducible refine Blk.alloc ?_ _) | (with_reducible refine RowIn.alloc ?_ _) | (with_reducible refine Below.alloc ?_ ?_ _) | (with_reducible apply Blk.set') | (with_reducible apply Blk.far') | (with_reducible refine RowIn.far' ?_ ?_ _) | (with_reducible refine Below.far' ?_ ?_ _) | rfl | omega | go_size))) HRD.out).mono ?_
          rintro e w6 ⟨rfl, b6⟩
          have own6 := own5.below b6 (Nat.le_refl _)
          have fr6 := fr5.trans (Frm.of_below b6 (fun _ => False)) (fun _ _ h => h.elim)
          have s6 := b6.size
          try simp only [World.size_alloc, World.size_setCell, World.size_drew, size_drewN] at s6
          obtain ⟨zs_6, zl_6, ra_6, rt_6, bb_6⟩ : Blk w6 (gs) 40 [.int .i64 (gk : Int), .int .i64 (p0 : Int), .int .i64 (p1 : Int), .int .u64 (q0 : Int), .int .u64 (q1 : Int), .slice A m c, .int .i64 ((bs.length : Nat) : Int)] ∧ Blk w6 (gl) 27 [.slice B' jj dd] ∧ RowIn .u8 w6 (lo) (hi) A m (pack bs) ∧ RowIn .u8 w6 (0) (base) (some ⟨0, 0, none⟩) 64 dbTab ∧ Below wr.heap.size wr w6 := by
            refine ⟨?_, ?_, ?_, ?_, ?_⟩
            all_goals repeat' (first | (with_reducible assumption) | (with_reducible exact Below.refl _ _) | (with_reducible refine Blk.drewN ?_ _) | (with_reducible refine RowIn.drewN ?_ _) | (with_reducible refine below_drewN ?_ _) | (with_reducible refine Blk.drew ?_) | (with_reducible refine RowIn.drew ?_) | (with_reducible refine Below.drew ?_) | (with_reducible refine Blk.new' ?_ ?_ <;> first | (with_reducible rfl) | (simp; done)) | (with_reducible refine Blk.alloc ?_ _) | (with_reducible refine RowIn.alloc ?_ _) | (with_reducible refine Below.alloc ?_ ?_ _) | (with_reducible apply Blk.set') | (with_reducible apply Blk.far') | (with_reducible refine RowIn.far' ?_ ?_ _) | (with_reducible refine Below.far' ?_ ?_ _) | (with_reducible refine Blk.after ?_ b6) | (with_reducible refine RowIn.belowS ?_ b6) | (with_reducible refine Below.after ?_ b6 ?_) | rfl | omega | go_size)
          clear b6
          have ks_6 := zs_6.cell; have fs_6 := zs_6.frozen; have ls_6 := zs_6.lt
          have kl_6 := zl_6.cell; have fl_6 := zl_6.frozen; have ll_6 := zl_6.lt
          have hg := feed_waits HG0.out HRR.out
          rw [← HKR.out] at hg
          go_wp2_with fail
          have lsp : gs < w6.heap.size := ls_6
          have spw : w.heap.size ≤ w6.heap.size := fr6.size
          refine (bcut_ok A m c bs (a : Nat) (bs.length : Nat) _ (by exact RowIn.row (lo := lo) (hi := hi) (by repeat' (first | (with_reducible assumption) | (with_reducible exact Below.refl _ _) | (with_reducible refine Blk.drewN ?_ _) | (with_reducible refine RowIn.drewN ?_ _) | (with_reducible refine below_drewN ?_ _) | (with_reducible refine Blk.drew ?_) | (with_reducible refine RowIn.drew ?_) | (with_reducible refine Below.drew ?_) | (with_reducible refine Blk.new' ?_ ?_ <;> first | (with_reducible rfl) | (simp; done)) | (with_reducible refine Blk.alloc ?_ _) | (with_reducible refine RowIn.alloc ?_ _) | (with_reducible refine Below.alloc ?_ ?_ _) | (with_reducible apply Blk.set') | (with_reducible apply Blk.far') | (with_reducible refine RowIn.far' ?_ ?_ _) | (with_reducible refine Below.far' ?_ ?_ _) | rfl | omega | go_size))) hc (by omega) (by omega) (by omega) (by omega)).mono ?_
          rintro e w7 ⟨Ap, mp, cp, xp, rfl, hcp, rp, HXp, b7⟩
          have Lp : xp.length ≤ bs.length - a ∧ bs.length - a ≤ xp.length := by rw [HXp.out]; rw [List.length_take, List.length_drop]; omega
          obtain ⟨Lp1, Lp2⟩ := Lp
          replace rp := rp.mono (lo' := w6.heap.size + 0) (by go_size) (Nat.le_refl _)
          have s7 := b7.size
          try simp only [World.size_alloc, World.size_setCell, World.size_drew, size_drewN] at s7
          obtain ⟨zs_7, zl_7, ra_7, rt_7, rp_7, bb_7⟩ : Blk w7 (gs) 40 [.int .i64 (gk : Int), .int .i64 (p0 : Int), .int .i64 (p1 : Int), .int .u64 (q0 : Int), .int .u64 (q1 : Int), .slice A m c, .int .i64 ((bs.length : Nat) : Int)] ∧ Blk w7 (gl) 27 [.slice B' jj dd] ∧ RowIn .u8 w7 (lo) (hi) A m (pack bs) ∧ RowIn .u8 w7 (0) (base) (some ⟨0, 0, none⟩) 64 dbTab ∧ RowIn .u8 w7 (w6.heap.size + 0) (w7.heap.size) Ap mp (pack xp) ∧ Below wr.heap.size wr w7 := by
            refine ⟨?_, ?_, ?_, ?_, ?_, ?_⟩
            all_goals repeat' (first | (with_reducible assumption) | (with_reducible exact Below.refl _ _) | (with_reducible refine Blk.drewN ?_ _) | (with_reducible refine RowIn.drewN ?_ _) | (with_reducible refine below_drewN ?_ _) | (with_reducible refine Blk.drew ?_) | (with_reducible refine RowIn.drew ?_) | (with_reducible refine Below.drew ?_) | (with_reducible refine Blk.new' ?_ ?_ <;> first | (with_reducible rfl) | (simp; done)) | (with_reducible refine Blk.alloc ?_ _) | (with_reducible refine RowIn.alloc ?_ _) | (with_reducible refine Below.alloc ?_ ?_ _) | (with_reducible apply Blk.set') | (with_reducible apply Blk.far') | (with_reducible refine RowIn.far' ?_ ?_ _) | (with_reducible refine Below.far' ?_ ?_ _) | (with_reducible refine Blk.after ?_ b7) | (with_reducible refine RowIn.belowS ?_ b7) | (with_reducible refine Below.after ?_ b7 ?_) | rfl | omega | go_size)
          have ks_7 := zs_7.cell; have fs_7 := zs_7.frozen; have ls_7 := zs_7.lt
          have kl_7 := zl_7.cell; have fl_7 := zl_7.frozen; have ll_7 := zl_7.lt
          clear rp
          have HPD : Hid (xp = bs.drop a) := Lib.hid (by rw [HXp.out]; simp only [Int.toNat_natCast]; rw [List.take_of_length_le (by rw [List.length_drop]; omega)])
          clear HXp
          have own7 := ((own6.alloc _)).below b7 (Nat.le_refl _)
          have fr7 := (fr6.alloc _).trans (Frm.of_below b7 (fun _ => False)) (fun _ _ h => h.elim)
          have hne7 : blockOf B' ≠ some gs := own7.ne_blk zs_7 (by decide)
          have hnl7 : blockOf B' ≠ some gl := own7.ne_blk zl_7 (by decide)
          have e1 : ((gk : Int) == 0) = false := beq_eq_false_iff_ne.2 (by omega)
          go_wp2
          go_ret
          refine ⟨?_, ?_⟩
          · exact (fr7.setCell (p := ⟨gs, _, none⟩) (fun _ => Or.inl rfl) _).setCell (p := ⟨gs, _, none⟩) (fun _ => Or.inl rfl) _
          · rw [hg]
            refine ⟨p0, p1, q0, q1, mp, cp, jj, dd, Ap, B', xp, zs, rfl, Lib.hid rfl, ?_, hcp, HPD, ?_, ?_, ?_, HZ, HB5.out⟩
            · exact Blk.set' (l0 := [.int .i64 (gk : Int), .int .i64 (p0 : Int), .int .i64 (p1 : Int), .int .u64 (q0 : Int), .int .u64 (q1 : Int), .slice Ap mp cp, .int .i64 ((bs.length : Nat) : Int)]) (Blk.set' zs_7 rfl) rfl
            · exact RowIn.mono (lo := w6.heap.size + 0) (hi := w7.heap.size) ((rp_7.far' (Or.inl (by omega)) _).far' (Or.inl (by omega)) _) (by omega) (by simp [World.setCell])
            · exact (Blk.far' (Blk.far' zl_7 (Ne.symm hne) _) (Ne.symm hne) _)
            · exact (own7.far' hne7 _).far' hne7 _
        · go_wp2_with fail
          refine (dread_c A m c bs (a : Nat) _ (by exact RowIn.row (lo := lo) (hi := hi) (by repeat' (first | (with_reducible assumption) | (with_reducible exact Below.refl _ _) | (with_reducible refine Blk.drewN ?_ _) | (with_reducible refine RowIn.drewN ?_ _) | (with_reducible refine below_drewN ?_ _) | (with_reducible refine Blk.drew ?_) | (with_reducible refine RowIn.drew ?_) | (with_reducible refine Below.drew ?_) | (with_reducible refine Blk.new' ?_ ?_ <;> first | (with_reducible rfl) | (simp; done)) | (with_reducible refine Blk.alloc ?_ _) | (with_reducible refine RowIn.alloc ?_ _) | (with_reducible refine Below.alloc ?_ ?_ _) | (with_reducible apply Blk.set') | (with_reducible apply Blk.far') | (with_reducible refine RowIn.far' ?_ ?_ _) | (with_reducible refine Below.far' ?_ ?_ _) | rfl | omega | go_size))) hc (by omega) (by omega) HPO.out (by exact RowIn.row (lo := 0) (hi := base) (by repeat' (first | (with_reducible assumption) | (with_reducible exact Below.refl _ _) | (with_reducible refine Blk.drewN ?_ _) | (with_reducible refine RowIn.drewN ?_ _) | (with_reducible refine below_drewN ?_ _) | (with_reducible refine Blk.drew ?_) | (with_reducible refine RowIn.drew ?_) | (with_reducible refine Below.drew ?_) | (with_reducible refine Blk.new' ?_ ?_ <;> first | (with_reducible rfl) | (simp; done)) | (with_reducible refine Blk.alloc ?_ _) | (with_reducible refine RowIn.alloc ?_ _) | (with_reducible refine Below.alloc ?_ ?_ _) | (with_reducible apply Blk.set') | (with_reducible apply Blk.far') | (with_reducible refine RowIn.far' ?_ ?_ _) | (with_reducible refine Below.far' ?_ ?_ _) | rfl | omega | go_size))) HRD.out).mono ?_
          rintro e w6 ⟨rfl, b6⟩
          have own6 := own5.below b6 (Nat.le_refl _)
          have fr6 := fr5.trans (Frm.of_below b6 (fun _ => False)) (fun _ _ h => h.elim)
          have s6 := b6.size
          try simp only [World.size_alloc, World.size_setCell, World.size_drew, size_drewN] at s6
          obtain ⟨zs_6, zl_6, ra_6, rt_6, bb_6⟩ : Blk w6 (gs) 40 [.int .i64 (gk : Int), .int .i64 (p0 : Int), .int .i64 (p1 : Int), .int .u64 (q0 : Int), .int .u64 (q1 : Int), .slice A m c, .int .i64 ((bs.length : Nat) : Int)] ∧ Blk w6 (gl) 27 [.slice B' jj dd] ∧ RowIn .u8 w6 (lo) (hi) A m (pack bs) ∧ RowIn .u8 w6 (0) (base) (some ⟨0, 0, none⟩) 64 dbTab ∧ Below wr.heap.size wr w6 := by
            refine ⟨?_, ?_, ?_, ?_, ?_⟩
            all_goals repeat' (first | (with_reducible assumption) | (with_reducible exact Below.refl _ _) | (with_reducible refine Blk.drewN ?_ _) | (with_reducible refine RowIn.drewN ?_ _) | (with_reducible refine below_drewN ?_ _) | (with_reducible refine Blk.drew ?_) | (with_reducible refine RowIn.drew ?_) | (with_reducible refine Below.drew ?_) | (with_reducible refine Blk.new' ?_ ?_ <;> first | (with_reducible rfl) | (simp; done)) | (with_reducible refine Blk.alloc ?_ _) | (with_reducible refine RowIn.alloc ?_ _) | (with_reducible refine Below.alloc ?_ ?_ _) | (with_reducible apply Blk.set') | (with_reducible apply Blk.far') | (with_reducible refine RowIn.far' ?_ ?_ _) | (with_reducible refine Below.far' ?_ ?_ _) | (with_reducible refine Blk.after ?_ b6) | (with_reducible refine RowIn.belowS ?_ b6) | (with_reducible refine Below.after ?_ b6 ?_) | rfl | omega | go_size)
          clear b6
          have ks_6 := zs_6.cell; have fs_6 := zs_6.frozen; have ls_6 := zs_6.lt
          have kl_6 := zl_6.cell; have fl_6 := zl_6.frozen; have ll_6 := zl_6.lt
          have hg := feed_stop HG0.out HRR.out (by omega)
          go_wp2
          go_ret
          refine ⟨?_, ?_⟩
          · exact fr6.alloc _
          · rw [hg]; rfl
      | ok v q =>
        obtain ⟨u0, u1, v0, v1, hu⟩ := Dual.four (learn ⟨p0, p1, q0, q1⟩ v)
        have hv32 := readD_lt HPO.out hrd
        have hkl := (readD_len HPO.out hrd).2.2
        rw [List.length_drop] at hkl
        have hg0 := HGG.out
        rw [HKR.out] at hg0
        have hg := feed_step hg0 hrd
        obtain ⟨z, hz⟩ : ∃ z, z = a + q := ⟨_, rfl⟩
        rw [hu, ← hz] at hg
        have HG2 := Lib.hid hg
        have HPO2 : Hid (Dual.Ok ⟨u0, u1, v0, v1⟩) := Lib.hid (by rw [← hu]; exact learn_ok HPO.out hv32)
        have HRD : Hid (drR bs (a : Nat) ⟨p0, p1, q0, q1⟩ = ((v : Int), (z : Int), ⟨u0, u1, v0, v1⟩, 0)) := Lib.hid (by unfold drR; rw [if_neg (by omega), Int.toNat_natCast, hrd]; dsimp only; rw [hu, hz]; simp)
        have hzl : z ≤ bs.length := by omega
        have hri : ((gk : Int) - 1) = (r : Int) := by have := HKR.out; omega
        clear hg hg0 hrd hu HGG hz
        go_wp2_with fail
        refine (dread_c A m c bs (a : Nat) _ (by exact RowIn.row (lo := lo) (hi := hi) (by repeat' (first | (with_reducible assumption) | (with_reducible exact Below.refl _ _) | (with_reducible refine Blk.drewN ?_ _) | (with_reducible refine RowIn.drewN ?_ _) | (with_reducible refine below_drewN ?_ _) | (with_reducible refine Blk.drew ?_) | (with_reducible refine RowIn.drew ?_) | (with_reducible refine Below.drew ?_) | (with_reducible refine Blk.new' ?_ ?_ <;> first | (with_reducible rfl) | (simp; done)) | (with_reducible refine Blk.alloc ?_ _) | (with_reducible refine RowIn.alloc ?_ _) | (with_reducible refine Below.alloc ?_ ?_ _) | (with_reducible apply Blk.set') | (with_reducible apply Blk.far') | (with_reducible refine RowIn.far' ?_ ?_ _) | (with_reducible refine Below.far' ?_ ?_ _) | rfl | omega | go_size))) hc (by omega) (by omega) HPO.out (by exact RowIn.row (lo := 0) (hi := base) (by repeat' (first | (with_reducible assumption) | (with_reducible exact Below.refl _ _) | (with_reducible refine Blk.drewN ?_ _) | (with_reducible refine RowIn.drewN ?_ _) | (with_reducible refine below_drewN ?_ _) | (with_reducible refine Blk.drew ?_) | (with_reducible refine RowIn.drew ?_) | (with_reducible refine Below.drew ?_) | (with_reducible refine Blk.new' ?_ ?_ <;> first | (with_reducible rfl) | (simp; done)) | (with_reducible refine Blk.alloc ?_ _) | (with_reducible refine RowIn.alloc ?_ _) | (with_reducible refine Below.alloc ?_ ?_ _) | (with_reducible apply Blk.set') | (with_reducible apply Blk.far') | (with_reducible refine RowIn.far' ?_ ?_ _) | (with_reducible refine Below.far' ?_ ?_ _) | rfl | omega | go_size))) HRD.out).mono ?_
        rintro e w6 ⟨rfl, b6⟩
        have own6 := own5.below b6 (Nat.le_refl _)
        have fr6 := fr5.trans (Frm.of_below b6 (fun _ => False)) (fun _ _ h => h.elim)
        have s6 := b6.size
        try simp only [World.size_alloc, World.size_setCell, World.size_drew, size_drewN] at s6
        obtain ⟨zs_6, zl_6, ra_6, rt_6, bb_6⟩ : Blk w6 (gs) 40 [.int .i64 (gk : Int), .int .i64 (p0 : Int), .int .i64 (p1 : Int), .int .u64 (q0 : Int), .int .u64 (q1 : Int), .slice A m c, .int .i64 ((bs.length : Nat) : Int)] ∧ Blk w6 (gl) 27 [.slice B' jj dd] ∧ RowIn .u8 w6 (lo) (hi) A m (pack bs) ∧ RowIn .u8 w6 (0) (base) (some ⟨0, 0, none⟩) 64 dbTab ∧ Below wr.heap.size wr w6 := by
          refine ⟨?_, ?_, ?_, ?_, ?_⟩
          all_goals repeat' (first | (with_reducible assumption) | (with_reducible exact Below.refl _ _) | (with_reducible refine Blk.drewN ?_ _) | (with_reducible refine RowIn.drewN ?_ _) | (with_reducible refine below_drewN ?_ _) | (with_reducible refine Blk.drew ?_) | (with_reducible refine RowIn.drew ?_) | (with_reducible refine Below.drew ?_) | (with_reducible refine Blk.new' ?_ ?_ <;> first | (with_reducible rfl) | (simp; done)) | (with_reducible refine Blk.alloc ?_ _) | (with_reducible refine RowIn.alloc ?_ _) | (with_reducible refine Below.alloc ?_ ?_ _) | (with_reducible apply Blk.set') | (with_reducible apply Blk.far') | (with_reducible refine RowIn.far' ?_ ?_ _) | (with_reducible refine Below.far' ?_ ?_ _) | (with_reducible refine Blk.after ?_ b6) | (with_reducible refine RowIn.belowS ?_ b6) | (with_reducible refine Below.after ?_ b6 ?_) | rfl | omega | go_size)
        clear b6
        have ks_6 := zs_6.cell; have fs_6 := zs_6.frozen; have ls_6 := zs_6.lt
        have kl_6 := zl_6.cell; have fl_6 := zl_6.frozen; have ll_6 := zl_6.lt
        have s6w : w.heap.size ≤ w6.heap.size := fr6.size
        go_wp2_with (at_builtin; refine wpList_app _ u32E rfl _ _ rfl base _ _ _ _ rfl (by exact (own6.alloc _).alloc _) _ _ _ [(v : Int)] rfl (by exact row_one' (by simp)) (by omega) (by simp; omega) ?_)
        intro B2 d2 w8 own8 hg8 hat8
        have zs_8 : Blk w8 gs 40 [.int .i64 (gk : Int), .int .i64 (p0 : Int), .int .i64 (p1 : Int), .int .u64 (q0 : Int), .int .u64 (q1 : Int), .slice A m c, .int .i64 ((bs.length : Nat) : Int)] := by
          refine Blk.grown ?_ hg8 (fun e => (own6.ne_blk zs_6 (by decide)) e.symm)
          repeat' (first | (with_reducible assumption) | (with_reducible exact Below.refl _ _) | (with_reducible refine Blk.drewN ?_ _) | (with_reducible refine RowIn.drewN ?_ _) | (with_reducible refine below_drewN ?_ _) | (with_reducible refine Blk.drew ?_) | (with_reducible refine RowIn.drew ?_) | (with_reducible refine Below.drew ?_) | (with_reducible refine Blk.new' ?_ ?_ <;> first | (with_reducible rfl) | (simp; done)) | (with_reducible refine Blk.alloc ?_ _) | (with_reducible refine RowIn.alloc ?_ _) | (with_reducible refine Below.alloc ?_ ?_ _) | (with_reducible apply Blk.set') | (with_reducible apply Blk.far') | (with_reducible refine RowIn.far' ?_ ?_ _) | (with_reducible refine Below.far' ?_ ?_ _) | rfl | omega | go_size)
        have zl_8 : Blk w8 gl 27 [.slice B' jj dd] := by
          refine Blk.grown ?_ hg8 (fun e => (own6.ne_blk zl_6 (by decide)) e.symm)
          repeat' (first | (with_reducible assumption) | (with_reducible exact Below.refl _ _) | (with_reducible refine Blk.drewN ?_ _) | (with_reducible refine RowIn.drewN ?_ _) | (with_reducible refine below_drewN ?_ _) | (with_reducible refine Blk.drew ?_) | (with_reducible refine RowIn.drew ?_) | (with_reducible refine Below.drew ?_) | (with_reducible refine Blk.new' ?_ ?_ <;> first | (with_reducible rfl) | (simp; done)) | (with_reducible refine Blk.alloc ?_ _) | (with_reducible refine RowIn.alloc ?_ _) | (with_reducible refine Below.alloc ?_ ?_ _) | (with_reducible apply Blk.set') | (with_reducible apply Blk.far') | (with_reducible refine RowIn.far' ?_ ?_ _) | (with_reducible refine Below.far' ?_ ?_ _) | rfl | omega | go_size)
        have zx_8 : Blk w8 w6.heap.size 38 [.int .i64 (u0 : Int), .int .i64 (u1 : Int), .int .u64 (v0 : Int), .int .u64 (v1 : Int)] := by
          have z0 : Blk ((w6.alloc (.cells #[.int .i64 (u0 : Int), .int .i64 (u1 : Int), .int .u64 (v0 : Int), .int .u64 (v1 : Int)] 38)).alloc (.cells #[.int .u32 (v : Int)] 55)) w6.heap.size 38 [.int .i64 (u0 : Int), .int .i64 (u1 : Int), .int .u64 (v0 : Int), .int .u64 (v1 : Int)] := by repeat' (first | (with_reducible assumption) | (with_reducible exact Below.refl _ _) | (with_reducible refine Blk.drewN ?_ _) | (with_reducible refine RowIn.drewN ?_ _) | (with_reducible refine below_drewN ?_ _) | (with_reducible refine Blk.drew ?_) | (with_reducible refine RowIn.drew ?_) | (with_reducible refine Below.drew ?_) | (with_reducible refine Blk.new' ?_ ?_ <;> first | (with_reducible rfl) | (simp; done)) | (with_reducible refine Blk.alloc ?_ _) | (with_reducible refine RowIn.alloc ?_ _) | (with_reducible refine Below.alloc ?_ ?_ _) | (with_reducible apply Blk.set') | (with_reducible apply Blk.far') | (with_reducible refine RowIn.far' ?_ ?_ _) | (with_reducible refine Below.far' ?_ ?_ _) | rfl | omega | go_size)
          exact Blk.grown z0 hg8 (fun e => (((own6.alloc _).alloc _).ne_blk z0 (by decide)) e.symm)
        have fr8 := ((fr6.alloc (.cells #[.int .i64 (u0 : Int), .int .i64 (u1 : Int), .int .u64 (v0 : Int), .int .u64 (v1 : Int)] 38)).alloc (.cells #[.int .u32 (v : Int)] 55)).grown hg8 (fun k e hk => Or.inr (Or.inr (HB5.out k e hk)))
        have ra_8 : RowIn .u8 w8 lo hi A m (pack bs) := by
          have z0 : RowIn .u8 ((w6.alloc (.cells #[.int .i64 (u0 : Int), .int .i64 (u1 : Int), .int .u64 (v0 : Int), .int .u64 (v1 : Int)] 38)).alloc (.cells #[.int .u32 (v : Int)] 55)) lo hi A m (pack bs) := by repeat' (first | (with_reducible assumption) | (with_reducible exact Below.refl _ _) | (with_reducible refine Blk.drewN ?_ _) | (with_reducible refine RowIn.drewN ?_ _) | (with_reducible refine below_drewN ?_ _) | (with_reducible refine Blk.drew ?_) | (with_reducible refine RowIn.drew ?_) | (with_reducible refine Below.drew ?_) | (with_reducible refine Blk.new' ?_ ?_ <;> first | (with_reducible rfl) | (simp; done)) | (with_reducible refine Blk.alloc ?_ _) | (with_reducible refine RowIn.alloc ?_ _) | (with_reducible refine Below.alloc ?_ ?_ _) | (with_reducible apply Blk.set') | (with_reducible apply Blk.far') | (with_reducible refine RowIn.far' ?_ ?_ _) | (with_reducible refine Below.far' ?_ ?_ _) | rfl | omega | go_size)
          refine z0.keep (fun p h1 h2 h3 => World.cell?_of_block (hg8.block p.block h3 (fun e => ?_)))
          have hb := own6.block p.block e.symm
          have hlt6 : p.block < w6.heap.size := hb.2
          by_cases hold : p.block < w.heap.size
          · have := HLO.out p.block (HB5.out p.block e.symm hold); omega
          · omega
        have HB8 : Hid (∀ i, blockOf B2 = some i → i < w.heap.size → blockOf B = some i) := Lib.hid (fun i h hi => by
          rcases hat8 with h2 | h2
          · exact HB5.out i (by rw [← h2]; exact h) hi
          · rw [h2] at h; have h3 := Option.some.inj h; try simp only [World.size_alloc] at h3
            omega)
        have HZ2 : Hid (zs ++ [(v : Int)] = ys ++ ints (us ++ [v])) := Lib.hid (by rw [ints_next, HZ.out, List.append_assoc])
        have ks_8 := zs_8.cell; have fs_8 := zs_8.frozen; have ls_8 := zs_8.lt; have kl_8 := zl_8.cell; have fl_8 := zl_8.frozen; have ll_8 := zl_8.lt; have kx_8 := zx_8.cell; have fx_8 := zx_8.frozen; have lx_8 := zx_8.lt
        have s8 := fr8.size
        clear hat8 own6 hg8 own5 fr5 fr6 zs_6 zl_6 ra_6 rt_6 bb_6 ks_6 fs_6 ls_6 kl_6 fl_6 ll_6
        go_wp2
        go_region
        all_goals try go_wp2
        all_goals
          have hne8 : blockOf B2 ≠ some gs := own8.ne_blk zs_8 (by decide)
          have hnl8 : blockOf B2 ≠ some gl := own8.ne_blk zl_8 (by decide)
          go_roundg r
          case measure => have := HKR.out; omega
          case rel =>
            have hng : gl ≠ gs := Ne.symm hne
            refine ⟨z, u0, u1, v0, v1, jj + 1, d2, B2, us ++ [v], zs ++ [(v : Int)], rfl, hzl, by simp; omega, by simp; have := HKR.out; omega, by simp; have := HKR.out; omega, HPO2, HG2, HZ2, ?_, ?_, ?_, ?_, ?_, HB8⟩
            · repeat' (first | (with_reducible exact own8) | (with_reducible refine Own.far' ?_ hne8 _) | (with_reducible refine Own.far' ?_ hnl8 _) | (with_reducible refine Own.drew ?_))
            · repeat' (first | (with_reducible assumption) | (with_reducible exact Below.refl _ _) | (with_reducible refine Blk.drewN ?_ _) | (with_reducible refine RowIn.drewN ?_ _) | (with_reducible refine below_drewN ?_ _) | (with_reducible refine Blk.drew ?_) | (with_reducible refine RowIn.drew ?_) | (with_reducible refine Below.drew ?_) | (with_reducible refine Blk.new' ?_ ?_ <;> first | (with_reducible rfl) | (simp; done)) | (with_reducible refine Blk.alloc ?_ _) | (with_reducible refine RowIn.alloc ?_ _) | (with_reducible refine Below.alloc ?_ ?_ _) | (with_reducible apply Blk.set') | (with_reducible apply Blk.far') | (with_reducible refine RowIn.far' ?_ ?_ _) | (with_reducible refine Below.far' ?_ ?_ _) | rfl | omega | go_size)
            · repeat' (first | (with_reducible assumption) | (with_reducible exact Below.refl _ _) | (with_reducible refine Blk.drewN ?_ _) | (with_reducible refine RowIn.drewN ?_ _) | (with_reducible refine below_drewN ?_ _) | (with_reducible refine Blk.drew ?_) | (with_reducible refine RowIn.drew ?_) | (with_reducible refine Below.drew ?_) | (with_reducible refine Blk.new' ?_ ?_ <;> first | (with_reducible rfl) | (simp; done)) | (with_reducible refine Blk.alloc ?_ _) | (with_reducible refine RowIn.alloc ?_ _) | (with_reducible refine Below.alloc ?_ ?_ _) | (with_reducible apply Blk.set') | (with_reducible apply Blk.far') | (with_reducible refine RowIn.far' ?_ ?_ _) | (with_reducible refine Below.far' ?_ ?_ _) | rfl | omega | go_size)
            · repeat' (first | (with_reducible assumption) | (with_reducible exact Below.refl _ _) | (with_reducible refine Blk.drewN ?_ _) | (with_reducible refine RowIn.drewN ?_ _) | (with_reducible refine below_drewN ?_ _) | (with_reducible refine Blk.drew ?_) | (with_reducible refine RowIn.drew ?_) | (with_reducible refine Below.drew ?_) | (with_reducible refine Blk.new' ?_ ?_ <;> first | (with_reducible rfl) | (simp; done)) | (with_reducible refine Blk.alloc ?_ _) | (with_reducible refine RowIn.alloc ?_ _) | (with_reducible refine Below.alloc ?_ ?_ _) | (with_reducible apply Blk.set') | (with_reducible apply Blk.far') | (with_reducible refine RowIn.far' ?_ ?_ _) | (with_reducible refine Below.far' ?_ ?_ _) | rfl | omega | go_size)
            · repeat' (first | (with_reducible exact fr8) | (with_reducible refine Frm.drew ?_) | (with_reducible refine Frm.setCell (p := ⟨gs, _, none⟩) ?_ (fun _ => Or.inl rfl) _) | (with_reducible refine Frm.setCell (p := ⟨gl, _, none⟩) ?_ (fun _ => Or.inr (Or.inl rfl)) _))
    · obtain rfl : gk = 0 := by omega
      go_wp2_with fail
      have lsp : gs < wr.heap.size := ls_5
      have spw : w.heap.size ≤ wr.heap.size := fr5.size
      refine (bcut_ok A m c bs (a : Nat) (bs.length : Nat) _ (by exact RowIn.row (lo := lo) (hi := hi) (by repeat' (first | (with_reducible assumption) | (with_reducible exact Below.refl _ _) | (with_reducible refine Blk.drewN ?_ _) | (with_reducible refine RowIn.drewN ?_ _) | (with_reducible refine below_drewN ?_ _) | (with_reducible refine Blk.drew ?_) | (with_reducible refine RowIn.drew ?_) | (with_reducible refine Below.drew ?_) | (with_reducible refine Blk.new' ?_ ?_ <;> first | (with_reducible rfl) | (simp; done)) | (with_reducible refine Blk.alloc ?_ _) | (with_reducible refine RowIn.alloc ?_ _) | (with_reducible refine Below.alloc ?_ ?_ _) | (with_reducible apply Blk.set') | (with_reducible apply Blk.far') | (with_reducible refine RowIn.far' ?_ ?_ _) | (with_reducible refine Below.far' ?_ ?_ _) | rfl | omega | go_size))) hc (by omega) (by omega) (by omega) (by omega)).mono ?_
      rintro e w6 ⟨Ap, mp, cp, xp, rfl, hcp, rp, HXp, b6⟩
      have Lp : xp.length ≤ bs.length - a ∧ bs.length - a ≤ xp.length := by rw [HXp.out]; rw [List.length_take, List.length_drop]; omega
      obtain ⟨Lp1, Lp2⟩ := Lp
      replace rp := rp.mono (lo' := wr.heap.size + 0) (by go_size) (Nat.le_refl _)
      have s6 := b6.size
      try simp only [World.size_alloc, World.size_setCell, World.size_drew, size_drewN] at s6
      obtain ⟨zs_6, zl_6, ra_6, rt_6, rp_6, bb_6⟩ : Blk w6 (gs) 40 [.int .i64 (0 : Int), .int .i64 (p0 : Int), .int .i64 (p1 : Int), .int .u64 (q0 : Int), .int .u64 (q1 : Int), .slice A m c, .int .i64 ((bs.length : Nat) : Int)] ∧ Blk w6 (gl) 27 [.slice B' jj dd] ∧ RowIn .u8 w6 (lo) (hi) A m (pack bs) ∧ RowIn .u8 w6 (0) (base) (some ⟨0, 0, none⟩) 64 dbTab ∧ RowIn .u8 w6 (wr.heap.size + 0) (w6.heap.size) Ap mp (pack xp) ∧ Below wr.heap.size wr w6 := by
        refine ⟨?_, ?_, ?_, ?_, ?_, ?_⟩
        all_goals repeat' (first | (with_reducible assumption) | (with_reducible exact Below.refl _ _) | (with_reducible refine Blk.drewN ?_ _) | (with_reducible refine RowIn.drewN ?_ _) | (with_reducible refine below_drewN ?_ _) | (with_reducible refine Blk.drew ?_) | (with_reducible refine RowIn.drew ?_) | (with_reducible refine Below.drew ?_) | (with_reducible refine Blk.new' ?_ ?_ <;> first | (with_reducible rfl) | (simp; done)) | (with_reducible refine Blk.alloc ?_ _) | (with_reducible refine RowIn.alloc ?_ _) | (with_reducible refine Below.alloc ?_ ?_ _) | (with_reducible apply Blk.set') | (with_reducible apply Blk.far') | (with_reducible refine RowIn.far' ?_ ?_ _) | (with_reducible refine Below.far' ?_ ?_ _) | (with_reducible refine Blk.after ?_ b6) | (with_reducible refine RowIn.belowS ?_ b6) | (with_reducible refine Below.after ?_ b6 ?_) | rfl | omega | go_size)
      have ks_6 := zs_6.cell; have fs_6 := zs_6.frozen; have ls_6 := zs_6.lt
      have kl_6 := zl_6.cell; have fl_6 := zl_6.frozen; have ll_6 := zl_6.lt
      clear rp
      have HPD : Hid (xp = bs.drop a) := Lib.hid (by rw [HXp.out]; simp only [Int.toNat_natCast]; rw [List.take_of_length_le (by rw [List.length_drop]; omega)])
      clear HXp
      have own7 := own5.below b6 (Nat.le_refl _)
      have fr7 := fr5.trans (Frm.of_below b6 (fun _ => False)) (fun _ _ h => h.elim)
      have hne7 : blockOf B' ≠ some gs := own7.ne_blk zs_6 (by decide)
      have hnl7 : blockOf B' ≠ some gl := own7.ne_blk zl_6 (by decide)
      by_cases h8 : 8 ≤ bs.length - a
      · have hg := feed_more HGG.out h8
        have e2 : decide (8 ≤ ((xp.length : Nat) : Int)) = true := decide_eq_true (by omega)
        go_wp2
        go_ret
        refine ⟨?_, ?_⟩
        · exact (fr7.setCell (p := ⟨gs, _, none⟩) (fun _ => Or.inl rfl) _).setCell (p := ⟨gs, _, none⟩) (fun _ => Or.inl rfl) _
        · rw [hg]; rfl
      · have hg := feed_done HGG.out (by omega)
        have e2 : decide (8 ≤ ((xp.length : Nat) : Int)) = false := decide_eq_false (by omega)
        go_wp2
        go_ret
        refine ⟨?_, ?_⟩
        · exact (fr7.setCell (p := ⟨gs, _, none⟩) (fun _ => Or.inl rfl) _).setCell (p := ⟨gs, _, none⟩) (fun _ => Or.inl rfl) _
        · rw [hg]
          refine ⟨p0, p1, q0, q1, mp, cp, jj, dd, Ap, B', xp, zs, rfl, Lib.hid rfl, ?_, hcp, HPD, ?_, ?_, ?_, HZ, HB5.out⟩
          · exact Blk.set' (l0 := [.int .i64 (0 : Int), .int .i64 (p0 : Int), .int .i64 (p1 : Int), .int .u64 (q0 : Int), .int .u64 (q1 : Int), .slice Ap mp cp, .int .i64 ((bs.length : Nat) : Int)]) (Blk.set' zs_6 rfl) rfl
          · exact RowIn.mono (lo := wr.heap.size + 0) (hi := w6.heap.size) ((rp_6.far' (Or.inl (by omega)) _).far' (Or.inl (by omega)) _) (by omega) (by simp [World.setCell])
          · exact (Blk.far' (Blk.far' zl_6 (Ne.symm hne) _) (Ne.symm hne) _)
          · exact (own7.far' hne7 _).far' hne7 _


end Go.Proofs.YtppilidcjlnmoaaDoor
