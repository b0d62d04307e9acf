/- A call of TokenBlanks returns what its plain definition tells. -/
import Derived.Test.YtpccakfbmbkmlaaT4
namespace Go.Proofs.Ytpccakfbmbkmlaa.PAll
open Go.RowKit Go.Proofs.YtpccakfbmbkmlaaW.PrintWords Go.Proofs.YtpccakfbmbkmlaaW.PrintLast Go.Proofs.YtpccakfbmbkmlaaW.PrintMore
attribute [local go_sem] max2_int min2_int max_two min_two max_three min_three max_four min_four   -- for this text's walks alone
set_option linter.unusedVariables false
set_option linter.unusedSimpArgs false

/-! ### biremelaw02_TokenBlanks: function 6 -/
mutual
def biremelaw02_TokenBlanks.j0 : Nat → Int → ByteArray → List (S31) → ByteArray → Bool → Option (Bool)
  | 0, _, _, _, _, _ => none
  | k + 1, x1, x5, x6, x9, x37 => if x37 = true then ((biremelaw02_alive.f k).bind fun t226 => (some t226)) else (if (x6.length : Int) = 0 then (none) else (if 0 ≤ (Int.tmod (wrap64 (x1)) (x6.length : Int)) then (if (Int.tmod (wrap64 (x1)) (x6.length : Int)) < (x6.length : Int) then (if 0 ≤ ((rd_T31 x6 (Int.tmod (wrap64 (x1)) (x6.length : Int))).f2) then (if ((rd_T31 x6 (Int.tmod (wrap64 (x1)) (x6.length : Int))).f2) ≤ (x5.size : Int) then (if (x5.extract 0 (((rd_T31 x6 (Int.tmod (wrap64 (x1)) (x6.length : Int))).f2) : Int).toNat).size + x9.size ≤ 9223372036854775807 then (if ((x5.extract 0 (((rd_T31 x6 (Int.tmod (wrap64 (x1)) (x6.length : Int))).f2) : Int).toNat) ++ x9).size + (x5.extract (((rd_T31 x6 (Int.tmod (wrap64 (x1)) (x6.length : Int))).f2) : Int).toNat x5.size).size ≤ 9223372036854775807 then ((token_Lex.f (((x5.extract 0 (((rd_T31 x6 (Int.tmod (wrap64 (x1)) (x6.length : Int))).f2) : Int).toNat) ++ x9) ++ (x5.extract (((rd_T31 x6 (Int.tmod (wrap64 (x1)) (x6.length : Int))).f2) : Int).toNat x5.size))).bind fun bt229 => (biremelaw02_TokenBlanks.l0 k x6 x9 bt229.1 bt229.2.2 (Int.tmod (wrap64 (x1)) (x6.length : Int)))) else (none)) else (none)) else (none)) else (none)) else (none)) else (none)))
def biremelaw02_TokenBlanks.l0 : Nat → List (S31) → ByteArray → List (S31) → Int → Int → Option (Bool)
  | 0, _, _, _, _, _ => none
  | k + 1, x6, x9, x11, x13, x14 => if x14 < (x6.length : Int) then (if 0 ≤ x14 then (biremelaw02_TokenBlanks.l0 k (x6.set (x14 : Int).toNat (⟨(rd_T31 x6 x14).f0, (rd_T31 x6 x14).f1, wrap64 (((rd_T31 x6 x14).f2) + (x9.size : Int))⟩ : S31)) x9 x11 x13 (wrap64 (x14 + 1))) else (none)) else (if x13 = 0 then ((biremeref02_Same.f k x6 x11 true).bind fun t236 => (if t236 = true then ((biremelaw02_alive.f k).bind fun t237 => (some t237)) else (some false))) else (some false))
end
def biremelaw02_TokenBlanks.f (k : Nat) (a0 : ByteArray) (a1 : Int) : Option (Bool) := (biremeref02_Short.f a0).bind fun t220 => ((token_Lex.f t220).bind fun bt221 => (if bt221.2.2 = 0 then (if (bt221.1.length : Int) = 0 then (biremelaw02_TokenBlanks.j0 k a1 t220 bt221.1 (⟨#[32, 9, 47, 47, 32, 110, 111, 32, 43, 32, 116, 111, 107, 101, 110, 32, 59, 10, 13]⟩ : ByteArray) true) else (biremelaw02_TokenBlanks.j0 k a1 t220 bt221.1 (⟨#[32, 9, 47, 47, 32, 110, 111, 32, 43, 32, 116, 111, 107, 101, 110, 32, 59, 10, 13]⟩ : ByteArray) (decide ((wrap64 ((t220.size : Int) + 19)) > 20000)))) else (biremelaw02_TokenBlanks.j0 k a1 t220 bt221.1 (⟨#[32, 9, 47, 47, 32, 110, 111, 32, 43, 32, 116, 111, 107, 101, 110, 32, 59, 10, 13]⟩ : ByteArray) true)))
theorem biremelaw02_TokenBlanks.mono_l : ∀ k, (∀ y0 y1 y2 y3 y4, LeO (biremelaw02_TokenBlanks.j0 k y0 y1 y2 y3 y4) (biremelaw02_TokenBlanks.j0 (k + 1) y0 y1 y2 y3 y4)) ∧ (∀ y0 y1 y2 y3 y4, LeO (biremelaw02_TokenBlanks.l0 k y0 y1 y2 y3 y4) (biremelaw02_TokenBlanks.l0 (k + 1) y0 y1 y2 y3 y4))
  | 0 => ⟨fun _ _ _ _ _ r h => by simp [biremelaw02_TokenBlanks.j0] at h, fun _ _ _ _ _ r h => by simp [biremelaw02_TokenBlanks.l0] at h⟩
  | k + 1 => by
    obtain ⟨ih0, ih1⟩ := biremelaw02_TokenBlanks.mono_l k
    refine ⟨?_, ?_⟩
    · intro y0 y1 y2 y3 y4
      unfold biremelaw02_TokenBlanks.j0
      repeat' first
      | (with_reducible exact ih0 _ _ _ _ _)
      | (with_reducible exact ih1 _ _ _ _ _)
      | (with_reducible exact biremelaw02_alive.mono _)
      | (with_reducible exact biremeref02_Same.mono _ _ _ _)
      | (with_reducible exact LeO.refl _)
      | (with_reducible exact LeO.none _)
      | (with_reducible refine LeO.ite ?_ ?_)
      | (with_reducible refine LeO.bind ?_ (fun _ => ?_))
      | exact ih0 _ _ _ _ _
      | exact ih1 _ _ _ _ _
      | exact biremelaw02_alive.mono _
      | exact biremeref02_Same.mono _ _ _ _
      | exact LeO.none _
      | refine LeO.ite ?_ ?_
      | refine LeO.bind ?_ (fun _ => ?_)
    · intro y0 y1 y2 y3 y4
      unfold biremelaw02_TokenBlanks.l0
      repeat' first
      | (with_reducible exact ih0 _ _ _ _ _)
      | (with_reducible exact ih1 _ _ _ _ _)
      | (with_reducible exact biremelaw02_alive.mono _)
      | (with_reducible exact biremeref02_Same.mono _ _ _ _)
      | (with_reducible exact LeO.refl _)
      | (with_reducible exact LeO.none _)
      | (with_reducible refine LeO.ite ?_ ?_)
      | (with_reducible refine LeO.bind ?_ (fun _ => ?_))
      | exact ih0 _ _ _ _ _
      | exact ih1 _ _ _ _ _
      | exact biremelaw02_alive.mono _
      | exact biremeref02_Same.mono _ _ _ _
      | exact LeO.none _
      | refine LeO.ite ?_ ?_
      | refine LeO.bind ?_ (fun _ => ?_)
theorem biremelaw02_TokenBlanks.mono : ∀ a0 a1 k, LeO (biremelaw02_TokenBlanks.f k a0 a1) (biremelaw02_TokenBlanks.f (k + 1) a0 a1) := by
  intro a0 a1 k
  obtain ⟨ih0, ih1⟩ := biremelaw02_TokenBlanks.mono_l k
  unfold biremelaw02_TokenBlanks.f
  repeat' first
      | (with_reducible exact ih0 _ _ _ _ _)
      | (with_reducible exact ih1 _ _ _ _ _)
      | (with_reducible exact biremelaw02_alive.mono _)
      | (with_reducible exact biremeref02_Same.mono _ _ _ _)
      | (with_reducible exact LeO.refl _)
      | (with_reducible exact LeO.none _)
      | (with_reducible refine LeO.ite ?_ ?_)
      | (with_reducible refine LeO.bind ?_ (fun _ => ?_))
      | exact ih0 _ _ _ _ _
      | exact ih1 _ _ _ _ _
      | exact biremelaw02_alive.mono _
      | exact biremeref02_Same.mono _ _ _ _
      | exact LeO.none _
      | refine LeO.ite ?_ ?_
      | refine LeO.bind ?_ (fun _ => ?_)
def biremelaw02_TokenBlanks.T7 : Bool × List (List Nat × List Nat) := (true, [([], []), ([], []), ([], []), ([1, 2], [1, 2]), ([3], [3]), ([4], [4]), ([0, 5], [0, 5]), ([], []), ([6, 7], [6, 7]), ([], []), ([], []), ([], []), ([10, 11], [10, 11]), ([12], [12]), ([13], [13]), ([9, 14], [9, 14]), ([8, 15], [8, 15]), ([16], [16]), ([17], [17]), ([18], [18]), ([18], [18]), ([18], [18]), ([19, 17, 0, 1, 2, 3, 4, 5, 6, 7, 8, 9, 10, 11, 12, 13, 14, 15, 16, 17, 18, 19], [19]), ([20, 22, 0, 1, 2, 3, 4, 5, 6, 7, 8, 9, 10, 11, 12, 13, 14, 15, 16, 17, 18, 19, 20, 22], [20]), ([21, 23, 0, 1, 2, 3, 4, 5, 6, 7, 8, 9, 10, 11, 12, 13, 14, 15, 16, 17, 18, 19, 20, 21, 22, 23], [21])])
def biremelaw02_TokenBlanks.B7 : List Nat := [0, 0, 0, 6, 14, 30, 63, 0, 255, 0, 0, 0, 3072, 7168, 15360, 32256, 65535, 131071, 262143, 524287, 524287, 524287, 1048575, 6291455, 16777215]
theorem biremelaw02_TokenBlanks.tab7 : rtab .any (opsOf Try.f6 7) = biremelaw02_TokenBlanks.T7 := by kernel_rfl
theorem biremelaw02_TokenBlanks.bits7 : waitsOk biremelaw02_TokenBlanks.T7.2 biremelaw02_TokenBlanks.B7 = true := by kernel_rfl
set_option maxHeartbeats 8000000 in
set_option maxRecDepth 100000 in
theorem biremelaw02_TokenBlanks.calls (k : Nat) (a0 : ByteArray) (a1 : Int) (r : Bool) (w : World) (h : biremelaw02_TokenBlanks.f k a0 a1 = some r) :
    Calls Try.prog 6 #[.string a0, .int .u16 a1] w fun e w' => e = .returned (.bool r) ∧ Below w.heap.size w w' := by
  have HB := Aside0.mk (Below.refl w.heap.size w)
  have H : ((biremeref02_Short.f a0).bind fun t220 => ((token_Lex.f t220).bind fun bt221 => (if bt221.2.2 = 0 then (if (bt221.1.length : Int) = 0 then (biremelaw02_TokenBlanks.j0 k a1 t220 bt221.1 (⟨#[32, 9, 47, 47, 32, 110, 111, 32, 43, 32, 116, 111, 107, 101, 110, 32, 59, 10, 13]⟩ : ByteArray) true) else (biremelaw02_TokenBlanks.j0 k a1 t220 bt221.1 (⟨#[32, 9, 47, 47, 32, 110, 111, 32, 43, 32, 116, 111, 107, 101, 110, 32, 59, 10, 13]⟩ : ByteArray) (decide ((wrap64 ((t220.size : Int) + 19)) > 20000)))) else (biremelaw02_TokenBlanks.j0 k a1 t220 bt221.1 (⟨#[32, 9, 47, 47, 32, 110, 111, 32, 43, 32, 116, 111, 107, 101, 110, 32, 59, 10, 13]⟩ : ByteArray) true)))) = some r := h
  clear h
  replace H := Option.bind_eq_some_iff.mp H
  obtain ⟨t220, A30, H⟩ := H
  replace H : ((token_Lex.f t220).bind fun bt221 => (if bt221.2.2 = 0 then (if (bt221.1.length : Int) = 0 then (biremelaw02_TokenBlanks.j0 k a1 t220 bt221.1 (⟨#[32, 9, 47, 47, 32, 110, 111, 32, 43, 32, 116, 111, 107, 101, 110, 32, 59, 10, 13]⟩ : ByteArray) true) else (biremelaw02_TokenBlanks.j0 k a1 t220 bt221.1 (⟨#[32, 9, 47, 47, 32, 110, 111, 32, 43, 32, 116, 111, 107, 101, 110, 32, 59, 10, 13]⟩ : ByteArray) (decide ((wrap64 ((t220.size : Int) + 19)) > 20000)))) else (biremelaw02_TokenBlanks.j0 k a1 t220 bt221.1 (⟨#[32, 9, 47, 47, 32, 110, 111, 32, 43, 32, 116, 111, 107, 101, 110, 32, 59, 10, 13]⟩ : ByteArray) true))) = some r := H
  have A3 := Aside0.mk A30
  clear A30
  replace H := Option.bind_eq_some_iff.mp H
  obtain ⟨⟨t221, t222, t223⟩, A40, H⟩ := H
  replace H : (if t223 = 0 then (if (t221.length : Int) = 0 then (biremelaw02_TokenBlanks.j0 k a1 t220 t221 (⟨#[32, 9, 47, 47, 32, 110, 111, 32, 43, 32, 116, 111, 107, 101, 110, 32, 59, 10, 13]⟩ : ByteArray) true) else (biremelaw02_TokenBlanks.j0 k a1 t220 t221 (⟨#[32, 9, 47, 47, 32, 110, 111, 32, 43, 32, 116, 111, 107, 101, 110, 32, 59, 10, 13]⟩ : ByteArray) (decide ((wrap64 ((t220.size : Int) + 19)) > 20000)))) else (biremelaw02_TokenBlanks.j0 k a1 t220 t221 (⟨#[32, 9, 47, 47, 32, 110, 111, 32, 43, 32, 116, 111, 107, 101, 110, 32, 59, 10, 13]⟩ : ByteArray) true)) = some r := H
  have A4 := Aside0.mk A40
  clear A40
  have HC5 := Aside0.mk H
  clear H
  go_enter Try.func6, Try.ntmps6
  go_upto_region 4 with (first | ((with_reducible refine gate_callee (f := 11) rfl ?_); refine goesL_ (some 16) rfl rfl Try.func11 (by kernel_rfl) rfl #[.string a0] rfl (by (try simp only [List.map_toArray, List.map_cons, List.map_nil]); first | done | rfl | (simp only [List.length_drop, List.length_take]; rfl)) ?_; (with_reducible refine (biremeref02_Short.calls a0 t220 _ A3.out).mono ?_); rintro e w6 ⟨rfl, hb⟩; refine ⟨_, rfl, ?_⟩; have n0_ := Aside0.mk (below_step (by repeat (first | (with_reducible first | exact HB.out | apply below_alloc | apply pw_below_drewN | apply below_drew1) | exact HB.out)) hb); clear HB; have HB := n0_; clear n0_; (try clear hb); (try clear hb2); (try clear hk); (try clear hi)) | ((with_reducible refine gate_callee (f := 12) rfl ?_); refine goesL_ (some 19) rfl rfl Try.func12 (by kernel_rfl) rfl #[.string t220] rfl (by (try simp only [List.map_toArray, List.map_cons, List.map_nil]); first | done | rfl | (simp only [List.length_drop, List.length_take]; rfl)) ?_; (with_reducible refine (token_Lex.calls t220 t221 t222 t223 _ A4.out).mono ?_); rintro e w7 ⟨v224, rfl, ho0, hb⟩; refine ⟨_, rfl, ?_⟩; have n0_ := Aside0.mk (Kd.R_lower ho0 (below_size (by repeat (first | (with_reducible first | exact HB.out | apply below_alloc | apply pw_below_drewN | apply below_drew1) | exact HB.out)))); have n1_ := Aside0.mk (below_step (by repeat (first | (with_reducible first | exact HB.out | apply below_alloc | apply pw_below_drewN | apply below_drew1) | exact HB.out)) hb); clear HB; have HO225 := n0_; have HB := n1_; clear n0_ n1_; (try clear hb); (try clear hb2); (try clear hk); (try clear hi); (try clear ho0)))
  (try simp only [Act.put, List.setIfInBounds_toArray, List.set_cons_zero, List.set_cons_succ])
  go_cut [37] (fun v37 wc => ∃ (kq : Nat) (x37_4 : Bool), v37 = .bool x37_4 ∧ Aside0 (biremelaw02_TokenBlanks.j0 kq a1 t220 t221 (⟨#[32, 9, 47, 47, 32, 110, 111, 32, 43, 32, 116, 111, 107, 101, 110, 32, 59, 10, 13]⟩ : ByteArray) x37_4 = some r) ∧ Aside0 (kq ≤ k) ∧ Aside0 (Kd.R k31 31 wc w.heap.size (fun _ => True) v224 t221) ∧ Aside0 (Below w.heap.size w wc))
  case first =>
    have H := HC5.out
    clear HC5
    by_cases c8 : t223 = 0
    · rw [if_pos c8] at H
      have c8b0 : (t223 == 0) = true := beq_iff_eq.mpr c8
      have c8b1 : (t223 != 0) = false := bne_eq_false_iff_eq.mpr c8
      clear c8
      (first | rw [c8b0] | (simp only [i64_w, i32_w]; rw [c8b0]) | skip)
      by_cases c9 : (t221.length : Int) = 0
      · rw [if_pos c9] at H
        have c9b0 : ((t221.length : Int) == 0) = true := beq_iff_eq.mpr c9
        have c9b1 : ((t221.length : Int) != 0) = false := bne_eq_false_iff_eq.mpr c9
        clear c9
        have H' := Aside0.mk H
        clear H
        obtain ⟨Ao10, co10, eo10⟩ := Kd.R_slice HO225.out
        subst eo10
        go_wp2
        go_meet
        case rel => exact ⟨_, (true), (by first | rfl | (simp; done) | (simp [*]; done)), H', ⟨by first | omega | exact Nat.le_refl _⟩, ⟨by (with_reducible repeat (first | apply Kd.R_alloc | apply Kd.R_drewN | apply Kd.R_drew)); exact HO225.out⟩, ⟨by repeat (first | (with_reducible first | exact HB.out | apply below_alloc | apply pw_below_drewN | apply below_drew1) | exact HB.out)⟩⟩
      · rw [if_neg c9] at H
        have c9b0 : ((t221.length : Int) == 0) = false := beq_eq_false_iff_ne.mpr c9
        have c9b1 : ((t221.length : Int) != 0) = true := bne_iff_ne.mpr c9
        have c9b2 : ¬ (t221 = []) := fun h_ => c9 (by rw [h_]; rfl)
        have H' := Aside0.mk H
        clear H
        obtain ⟨Ao11, co11, eo11⟩ := Kd.R_slice HO225.out
        subst eo11
        go_wp2
        go_meet
        case rel => exact ⟨_, (decide ((wrap64 ((t220.size : Int) + 19)) > 20000)), (by first | rfl | (simp; done) | (simp [*]; done)), H', ⟨by first | omega | exact Nat.le_refl _⟩, ⟨by (with_reducible repeat (first | apply Kd.R_alloc | apply Kd.R_drewN | apply Kd.R_drew)); exact HO225.out⟩, ⟨by repeat (first | (with_reducible first | exact HB.out | apply below_alloc | apply pw_below_drewN | apply below_drew1) | exact HB.out)⟩⟩
    · rw [if_neg c8] at H
      have c8b0 : (t223 == 0) = false := beq_eq_false_iff_ne.mpr c8
      have c8b1 : (t223 != 0) = true := bne_iff_ne.mpr c8
      (first | rw [c8b0] | (simp only [i64_w, i32_w]; rw [c8b0]) | skip)
      have H' := Aside0.mk H
      clear H
      go_wp2
      go_meet
      case rel => exact ⟨_, (true), (by first | rfl | (simp; done) | (simp [*]; done)), H', ⟨by first | omega | exact Nat.le_refl _⟩, ⟨by (with_reducible repeat (first | apply Kd.R_alloc | apply Kd.R_drewN | apply Kd.R_drew)); exact HO225.out⟩, ⟨by repeat (first | (with_reducible first | exact HB.out | apply below_alloc | apply pw_below_drewN | apply below_drew1) | exact HB.out)⟩⟩
  case rest =>
    clear HC5
    try clear c1
    try clear p2
    try clear c6
    try clear p6
    try clear c8
    try clear c8b0
    try clear c8b1
    try clear c9
    try clear c9b0
    try clear c9b1
    try clear c9b2
    try clear c11
    obtain ⟨kq, x37_4, rfl, HA, HJ4, HO_6, HB⟩ := hcut
    cases kq with
    | zero => exact absurd HA.out (by simp [biremelaw02_TokenBlanks.j0])
    | succ kj4 =>
      have H := HA.out
      clear HA
      simp only [biremelaw02_TokenBlanks.j0] at H
      by_cases c12 : x37_4 = true
      · subst c12
        have H1 : ((biremelaw02_alive.f kj4).bind fun t226 => (some t226)) = some r := by rw [if_pos rfl] at H; exact H
        clear H
        have H := H1
        clear H1
        replace H := Option.bind_eq_some_iff.mp H
        obtain ⟨t226, A130, H⟩ := H
        replace H : (some t226) = some r := H
        have A13 := Aside0.mk A130
        clear A130
        obtain rfl := Option.some.inj H
        go_wp2_with (first | ((with_reducible refine gate_callee (f := 15) rfl ?_); refine goesL_ (some 38) rfl rfl Try.func15 (by kernel_rfl) rfl #[] rfl (by (try simp only [List.map_toArray, List.map_cons, List.map_nil]); first | done | rfl | (simp only [List.length_drop, List.length_take]; rfl)) ?_; (with_reducible refine (biremelaw02_alive.calls kj4  t226 _ A13.out).mono ?_); rintro e w14 ⟨rfl, hb⟩; refine ⟨_, rfl, ?_⟩; have n0_ := Aside0.mk (Kd.R_below (by (with_reducible repeat (first | apply Kd.R_alloc | apply Kd.R_drewN | apply Kd.R_drew)); exact HO_6.out) hb); have n1_ := Aside0.mk (below_step (by repeat (first | (with_reducible first | exact HB.out | apply below_alloc | apply pw_below_drewN | apply below_drew1) | exact HB.out)) hb); clear HO_6; clear HB; have HO_6 := n0_; have HB := n1_; clear n0_ n1_; (try clear hb); (try clear hb2); (try clear hk); (try clear hi)))
        go_ret
        exact ⟨by first | rfl | (simp [errW_none, errW_some] <;> rfl) | (simp [*, errW_none, errW_some] <;> rfl), by repeat (first | (with_reducible first | exact HB.out | apply below_alloc | apply pw_below_drewN | apply below_drew1) | exact HB.out)⟩
      · replace c12 := Bool.eq_false_iff.mpr c12
        subst c12
        have H1 : (if (t221.length : Int) = 0 then (none) else (if 0 ≤ (Int.tmod (wrap64 (a1)) (t221.length : Int)) then (if (Int.tmod (wrap64 (a1)) (t221.length : Int)) < (t221.length : Int) then (if 0 ≤ ((rd_T31 t221 (Int.tmod (wrap64 (a1)) (t221.length : Int))).f2) then (if ((rd_T31 t221 (Int.tmod (wrap64 (a1)) (t221.length : Int))).f2) ≤ (t220.size : Int) then (if (t220.extract 0 (((rd_T31 t221 (Int.tmod (wrap64 (a1)) (t221.length : Int))).f2) : Int).toNat).size + (⟨#[32, 9, 47, 47, 32, 110, 111, 32, 43, 32, 116, 111, 107, 101, 110, 32, 59, 10, 13]⟩ : ByteArray).size ≤ 9223372036854775807 then (if ((t220.extract 0 (((rd_T31 t221 (Int.tmod (wrap64 (a1)) (t221.length : Int))).f2) : Int).toNat) ++ (⟨#[32, 9, 47, 47, 32, 110, 111, 32, 43, 32, 116, 111, 107, 101, 110, 32, 59, 10, 13]⟩ : ByteArray)).size + (t220.extract (((rd_T31 t221 (Int.tmod (wrap64 (a1)) (t221.length : Int))).f2) : Int).toNat t220.size).size ≤ 9223372036854775807 then ((token_Lex.f (((t220.extract 0 (((rd_T31 t221 (Int.tmod (wrap64 (a1)) (t221.length : Int))).f2) : Int).toNat) ++ (⟨#[32, 9, 47, 47, 32, 110, 111, 32, 43, 32, 116, 111, 107, 101, 110, 32, 59, 10, 13]⟩ : ByteArray)) ++ (t220.extract (((rd_T31 t221 (Int.tmod (wrap64 (a1)) (t221.length : Int))).f2) : Int).toNat t220.size))).bind fun bt229 => (biremelaw02_TokenBlanks.l0 kj4 t221 (⟨#[32, 9, 47, 47, 32, 110, 111, 32, 43, 32, 116, 111, 107, 101, 110, 32, 59, 10, 13]⟩ : ByteArray) bt229.1 bt229.2.2 (Int.tmod (wrap64 (a1)) (t221.length : Int)))) else (none)) else (none)) else (none)) else (none)) else (none)) else (none))) = some r := by rw [if_neg (show ¬ (false = true) by decide)] at H; exact H
        clear H
        have H := H1
        clear H1
        by_cases c15 : (t221.length : Int) = 0
        · rw [if_pos c15] at H
          exact absurd H (by simp)
        · rw [if_neg c15] at H
          have c15b0 : ((t221.length : Int) == 0) = false := beq_eq_false_iff_ne.mpr c15
          have c15b1 : ((t221.length : Int) != 0) = true := bne_iff_ne.mpr c15
          have c15b2 : ¬ (t221 = []) := fun h_ => c15 (by rw [h_]; rfl)
          obtain ⟨ji16, hji16⟩ : ∃ j_ : Int, (Int.tmod (wrap64 (a1)) (t221.length : Int)) = j_ := ⟨_, rfl⟩
          replace H : (if 0 ≤ (ji16) then (if (ji16) < (t221.length : Int) then (if 0 ≤ ((rd_T31 t221 (ji16)).f2) then (if ((rd_T31 t221 (ji16)).f2) ≤ (t220.size : Int) then (if (t220.extract 0 (((rd_T31 t221 (ji16)).f2) : Int).toNat).size + (⟨#[32, 9, 47, 47, 32, 110, 111, 32, 43, 32, 116, 111, 107, 101, 110, 32, 59, 10, 13]⟩ : ByteArray).size ≤ 9223372036854775807 then (if ((t220.extract 0 (((rd_T31 t221 (ji16)).f2) : Int).toNat) ++ (⟨#[32, 9, 47, 47, 32, 110, 111, 32, 43, 32, 116, 111, 107, 101, 110, 32, 59, 10, 13]⟩ : ByteArray)).size + (t220.extract (((rd_T31 t221 (ji16)).f2) : Int).toNat t220.size).size ≤ 9223372036854775807 then ((token_Lex.f (((t220.extract 0 (((rd_T31 t221 (ji16)).f2) : Int).toNat) ++ (⟨#[32, 9, 47, 47, 32, 110, 111, 32, 43, 32, 116, 111, 107, 101, 110, 32, 59, 10, 13]⟩ : ByteArray)) ++ (t220.extract (((rd_T31 t221 (ji16)).f2) : Int).toNat t220.size))).bind fun bt229 => (biremelaw02_TokenBlanks.l0 kj4 t221 (⟨#[32, 9, 47, 47, 32, 110, 111, 32, 43, 32, 116, 111, 107, 101, 110, 32, 59, 10, 13]⟩ : ByteArray) bt229.1 bt229.2.2 ji16)) else (none)) else (none)) else (none)) else (none)) else (none)) else (none)) = some r := by first | (rw [hji16] at H; exact H) | (simp only [hji16] at H ⊢; exact H)
          by_cases c17 : 0 ≤ (ji16)
          · rw [if_pos c17] at H
            have c17b0 : decide (0 ≤ (ji16)) = true := decide_eq_true c17
            clear c17
            by_cases c18 : (ji16) < (t221.length : Int)
            · rw [if_pos c18] at H
              have c18b0 : decide ((ji16) < (t221.length : Int)) = true := decide_eq_true c18
              clear c18
              by_cases c19 : 0 ≤ ((rd_T31 t221 (ji16)).f2)
              · rw [if_pos c19] at H
                have c19b0 := eq_true c19
                have c19b1 : decide (0 ≤ ((rd_T31 t221 (ji16)).f2)) = true := decide_eq_true c19
                clear c19
                by_cases c20 : ((rd_T31 t221 (ji16)).f2) ≤ (t220.size : Int)
                · rw [if_pos c20] at H
                  have c20b0 := eq_true c20
                  have c20b1 : decide (((rd_T31 t221 (ji16)).f2) ≤ (t220.size : Int)) = true := decide_eq_true c20
                  clear c20
                  by_cases c21 : (t220.extract 0 (((rd_T31 t221 (ji16)).f2) : Int).toNat).size + (⟨#[32, 9, 47, 47, 32, 110, 111, 32, 43, 32, 116, 111, 107, 101, 110, 32, 59, 10, 13]⟩ : ByteArray).size ≤ 9223372036854775807
                  · rw [if_pos c21] at H
                    have c21b0 := eq_true c21
                    have c21b1 : decide ((t220.extract 0 (((rd_T31 t221 (ji16)).f2) : Int).toNat).size + (⟨#[32, 9, 47, 47, 32, 110, 111, 32, 43, 32, 116, 111, 107, 101, 110, 32, 59, 10, 13]⟩ : ByteArray).size ≤ 9223372036854775807) = true := decide_eq_true c21
                    try have c21b2 : (9223372036854775807 < (t220.extract 0 (((rd_T31 t221 (ji16)).f2) : Int).toNat).size + (⟨#[32, 9, 47, 47, 32, 110, 111, 32, 43, 32, 116, 111, 107, 101, 110, 32, 59, 10, 13]⟩ : ByteArray).size) = False := eq_false (Nat.not_lt.2 c21)
                    have c21b3 : (9223372036854775807 < (((rd_T31 t221 (ji16)).f2)).toNat + 19) = False := eq_false (by have e := c21; have g1 := of_eq_true c20b0; simp only [ByteArray.size_extract] at e; have e2 : (⟨#[32, 9, 47, 47, 32, 110, 111, 32, 43, 32, 116, 111, 107, 101, 110, 32, 59, 10, 13]⟩ : ByteArray).size = 19 := rfl; rw [e2] at e; omega)
                    have c22b0 := eq_true (of_decide_eq_true (by first | (with_reducible assumption) | assumption) : 0 ≤ ((rd_T31 t221 (ji16)).f2))
                    have c23b0 := eq_true (of_decide_eq_true (by first | (with_reducible assumption) | assumption) : ((rd_T31 t221 (ji16)).f2) ≤ (t220.size : Int))
                    by_cases c24 : ((t220.extract 0 (((rd_T31 t221 (ji16)).f2) : Int).toNat) ++ (⟨#[32, 9, 47, 47, 32, 110, 111, 32, 43, 32, 116, 111, 107, 101, 110, 32, 59, 10, 13]⟩ : ByteArray)).size + (t220.extract (((rd_T31 t221 (ji16)).f2) : Int).toNat t220.size).size ≤ 9223372036854775807
                    · rw [if_pos c24] at H
                      have c24b0 := eq_true c24
                      have c24b1 : decide (((t220.extract 0 (((rd_T31 t221 (ji16)).f2) : Int).toNat) ++ (⟨#[32, 9, 47, 47, 32, 110, 111, 32, 43, 32, 116, 111, 107, 101, 110, 32, 59, 10, 13]⟩ : ByteArray)).size + (t220.extract (((rd_T31 t221 (ji16)).f2) : Int).toNat t220.size).size ≤ 9223372036854775807) = true := decide_eq_true c24
                      try have c24b2 : (9223372036854775807 < ((t220.extract 0 (((rd_T31 t221 (ji16)).f2) : Int).toNat) ++ (⟨#[32, 9, 47, 47, 32, 110, 111, 32, 43, 32, 116, 111, 107, 101, 110, 32, 59, 10, 13]⟩ : ByteArray)).size + (t220.extract (((rd_T31 t221 (ji16)).f2) : Int).toNat t220.size).size) = False := eq_false (Nat.not_lt.2 c24)
                      have c24b3 : (9223372036854775807 < (((rd_T31 t221 (ji16)).f2)).toNat + 19 + (t220.size - (((rd_T31 t221 (ji16)).f2)).toNat)) = False := eq_false (by have e := c24; have g1 := of_eq_true c20b0; simp only [ByteArray.size_append, ByteArray.size_extract] at e; have e2 : (⟨#[32, 9, 47, 47, 32, 110, 111, 32, 43, 32, 116, 111, 107, 101, 110, 32, 59, 10, 13]⟩ : ByteArray).size = 19 := rfl; rw [e2] at e; omega)
                      replace H := Option.bind_eq_some_iff.mp H
                      obtain ⟨⟨t229, t230, t231⟩, A250, H⟩ := H
                      replace H : (biremelaw02_TokenBlanks.l0 kj4 t221 (⟨#[32, 9, 47, 47, 32, 110, 111, 32, 43, 32, 116, 111, 107, 101, 110, 32, 59, 10, 13]⟩ : ByteArray) t229 t231 ji16) = some r := H
                      have A25 := Aside0.mk A250
                      clear A250
                      have H' := Aside0.mk H
                      clear H
                      obtain ⟨Ao26, co26, eo26⟩ := Kd.R_slice HO_6.out
                      subst eo26
                      try go_wp2
                      have n0_ := Aside0.mk (Kd.R_drew HO_6.out)
                      have n1_ := Aside0.mk (below_drew1 HB.out)
                      clear HO_6
                      clear HB
                      have HO_6 := n0_
                      have HB := n1_
                      clear n0_ n1_
                      have p227 : 0 ≤ ((ji16) : Int) := of_decide_eq_true (by first | (with_reducible assumption) | assumption)
                      have q227 : (ji16) < (t221.length : Int) := of_decide_eq_true (by first | (with_reducible assumption) | assumption)
                      obtain ⟨ad227, e227, hx227_0, hx227_1, hx227_2⟩ := at_T31 (Kd.R_reads' HO_6.out).2.2 (ji16) p227 q227
                      cases e227
                      replace p227 := eq_true p227
                      replace q227 := eq_true q227
                      have p228 : 0 ≤ ((ji16) : Int) := of_decide_eq_true (by first | (with_reducible assumption) | assumption)
                      have q228 : (ji16) < (t221.length : Int) := of_decide_eq_true (by first | (with_reducible assumption) | assumption)
                      obtain ⟨ad228, e228, hx228_0, hx228_1, hx228_2⟩ := at_T31 (Kd.R_reads' HO_6.out).2.2 (ji16) p228 q228
                      obtain rfl : ad227 = ad228 := (by injection e228)
                      replace p228 := eq_true p228
                      replace q228 := eq_true q228
                      refine start_ (n := 25) (S := fun w' => w'.cell? (ad227.add (((ji16)).toNat * 3)) = some (.int .i64 ((rd_T31 t221 (ji16)).f0)) ∧ w'.cell? ⟨(ad227.add (((ji16)).toNat * 3)).block, (ad227.add (((ji16)).toNat * 3)).off + 1, none⟩ = some (.string ((rd_T31 t221 (ji16)).f1)) ∧ w'.cell? ⟨(ad227.add (((ji16)).toNat * 3)).block, (ad227.add (((ji16)).toNat * 3)).off + 2, none⟩ = some (.int .i64 ((rd_T31 t221 (ji16)).f2)) ∧ w'.cell? (ad227.add (((ji16)).toNat * 3)) = some (.int .i64 ((rd_T31 t221 (ji16)).f0)) ∧ w'.cell? ⟨(ad227.add (((ji16)).toNat * 3)).block, (ad227.add (((ji16)).toNat * 3)).off + 1, none⟩ = some (.string ((rd_T31 t221 (ji16)).f1)) ∧ w'.cell? ⟨(ad227.add (((ji16)).toNat * 3)).block, (ad227.add (((ji16)).toNat * 3)).off + 2, none⟩ = some (.int .i64 ((rd_T31 t221 (ji16)).f2))) (ds := []) #[false, false, false, false, false, false, false, false, false, false, false, false, false, false, false, false, false, false, false, false, false, false, false, false, false] (by kernel_rfl) rfl rfl ⟨hx227_0, hx227_1, hx227_2, hx228_0, hx228_1, hx228_2⟩ (fun hHeld => ?_); refine with_tabW biremelaw02_TokenBlanks.tab7 biremelaw02_TokenBlanks.bits7 (fun HT_ HW_ => ?_)
                      generalize wc.drew = w27 at HO_6 HB hx227_0 hx227_1 hx227_2 hx228_0 hx228_1 hx228_2 hHeld ⊢
                      refine pure_ (i := 0) (N := some 45) (v := ?_) (a' := ?_) #[true, false, false, false, false, false, false, false, false, false, false, false, false, false, false, false, false, false, false, false, false, false, false, false, false] rfl rfl (any_of HT_.out (by kernel_rfl)) (fun _ _ _ h => h) (Or.inl ⟨by rfl, ?_⟩) ?_ ?_
                      rotate_left
                      · intro w'
                        go_simp
                        with_reducible rfl
                      rotate_left
                      · simp only [Act.put, List.setIfInBounds_toArray, List.set_cons_zero, List.set_cons_succ, i64_w, i32_w]
                        rfl
                      refine pure_ (i := 1) (N := some 46) (v := ?_) (a' := ?_) #[true, true, false, false, false, false, false, false, false, false, false, false, false, false, false, false, false, false, false, false, false, false, false, false, false] rfl rfl (any_of HT_.out (by kernel_rfl)) (fun _ _ _ h => h) (Or.inl ⟨by rfl, ?_⟩) ?_ ?_
                      rotate_left
                      · intro w'
                        go_simp
                        with_reducible rfl
                      rotate_left
                      · simp only [Act.put, List.setIfInBounds_toArray, List.set_cons_zero, List.set_cons_succ, i64_w, i32_w]
                        rfl
                      refine pure_ (i := 2) (N := some 47) (v := ?_) (a' := ?_) #[true, true, true, false, false, false, false, false, false, false, false, false, false, false, false, false, false, false, false, false, false, false, false, false, false] rfl rfl (any_of HT_.out (by kernel_rfl)) (fun _ _ _ h => h) (Or.inl ⟨by rfl, ?_⟩) ?_ ?_
                      rotate_left
                      · intro w'
                        go_simp
                        with_reducible rfl
                      rotate_left
                      · simp only [Act.put, List.setIfInBounds_toArray, List.set_cons_zero, List.set_cons_succ, i64_w, i32_w]
                        rfl
                      refine pure_ (i := 3) (N := some 48) (v := ?_) (a' := ?_) #[true, true, true, true, false, false, false, false, false, false, false, false, false, false, false, false, false, false, false, false, false, false, false, false, false] rfl rfl (any_of HT_.out (by kernel_rfl)) (fun _ _ _ h => h) (Or.inl ⟨by rfl, ?_⟩) ?_ ?_
                      rotate_left
                      · intro w'
                        go_simp
                        with_reducible rfl
                      rotate_left
                      · simp only [Act.put, List.setIfInBounds_toArray, List.set_cons_zero, List.set_cons_succ, i64_w, i32_w]
                        rfl
                      refine pure_ (i := 4) (N := some 49) (v := ?_) (a' := ?_) #[true, true, true, true, true, false, false, false, false, false, false, false, false, false, false, false, false, false, false, false, false, false, false, false, false] rfl rfl (any_of HT_.out (by kernel_rfl)) (fun _ _ _ h => h) (Or.inl ⟨by rfl, ?_⟩) ?_ ?_
                      rotate_left
                      · intro w'
                        go_simp
                        with_reducible rfl
                      rotate_left
                      · simp only [Act.put, List.setIfInBounds_toArray, List.set_cons_zero, List.set_cons_succ, i64_w, i32_w]
                        rfl
                      refine pure_ (i := 7) (N := some 52) (v := ?_) (a' := ?_) #[true, true, true, true, true, false, false, true, false, false, false, false, false, false, false, false, false, false, false, false, false, false, false, false, false] rfl rfl (any_of HT_.out (by kernel_rfl)) (fun _ _ _ h => h) (Or.inl ⟨by rfl, ?_⟩) ?_ ?_
                      rotate_left
                      · intro w'
                        go_simp
                        with_reducible rfl
                      rotate_left
                      · simp only [Act.put, List.setIfInBounds_toArray, List.set_cons_zero, List.set_cons_succ, i64_w, i32_w]
                        rfl
                      refine pure_ (i := 9) (N := some 54) (v := ?_) (a' := ?_) #[true, true, true, true, true, false, false, true, false, true, false, false, false, false, false, false, false, false, false, false, false, false, false, false, false] rfl rfl (any_of HT_.out (by kernel_rfl)) (fun _ _ _ h => h) (Or.inl ⟨by rfl, ?_⟩) ?_ ?_
                      rotate_left
                      · intro w'
                        go_simp
                        with_reducible rfl
                      rotate_left
                      · simp only [Act.put, List.setIfInBounds_toArray, List.set_cons_zero, List.set_cons_succ, i64_w, i32_w]
                        rfl
                      refine pure_ (i := 10) (N := some 55) (v := ?_) (a' := ?_) #[true, true, true, true, true, false, false, true, false, true, true, false, false, false, false, false, false, false, false, false, false, false, false, false, false] rfl rfl (any_of HT_.out (by kernel_rfl)) (fun _ _ _ h => h) (Or.inl ⟨by rfl, ?_⟩) ?_ ?_
                      rotate_left
                      · intro w'
                        go_simp
                        with_reducible rfl
                      rotate_left
                      · simp only [Act.put, List.setIfInBounds_toArray, List.set_cons_zero, List.set_cons_succ, i64_w, i32_w]
                        rfl
                      refine pure_ (i := 11) (N := some 56) (v := ?_) (a' := ?_) #[true, true, true, true, true, false, false, true, false, true, true, true, false, false, false, false, false, false, false, false, false, false, false, false, false] rfl rfl (any_of HT_.out (by kernel_rfl)) (fun _ _ _ h => h) (Or.inl ⟨by rfl, ?_⟩) ?_ ?_
                      rotate_left
                      · intro w'
                        go_simp
                        with_reducible rfl
                      rotate_left
                      · simp only [Act.put, List.setIfInBounds_toArray, List.set_cons_zero, List.set_cons_succ, i64_w, i32_w]
                        rfl
                      refine pure_ (i := 12) (N := some 57) (v := ?_) (a' := ?_) #[true, true, true, true, true, false, false, true, false, true, true, true, true, false, false, false, false, false, false, false, false, false, false, false, false] rfl rfl (any_of HT_.out (by kernel_rfl)) (fun _ _ _ h => h) (Or.inl ⟨by rfl, ?_⟩) ?_ ?_
                      rotate_left
                      · intro w'
                        go_simp
                        with_reducible rfl
                      rotate_left
                      · simp only [Act.put, List.setIfInBounds_toArray, List.set_cons_zero, List.set_cons_succ, i64_w, i32_w]
                        rfl
                      refine pure_ (i := 13) (N := some 58) (v := ?_) (a' := ?_) #[true, true, true, true, true, false, false, true, false, true, true, true, true, true, false, false, false, false, false, false, false, false, false, false, false] rfl rfl (any_of HT_.out (by kernel_rfl)) (fun _ _ _ h => h) (Or.inl ⟨by rfl, ?_⟩) ?_ ?_
                      rotate_left
                      · intro w'
                        go_simp
                        with_reducible rfl
                      rotate_left
                      · simp only [Act.put, List.setIfInBounds_toArray, List.set_cons_zero, List.set_cons_succ, i64_w, i32_w]
                        rfl
                      refine take_ (i := 5) (N := some 50) (v := ?_) (a' := ?_) #[true, true, true, true, true, true, false, true, false, true, true, true, true, true, false, false, false, false, false, false, false, false, false, false, false] rfl rfl (take_ofW HT_.out HW_.out (by kernel_rfl)) (fun _ _ _ h => h) (Or.inl ⟨by rfl, ?_⟩) hHeld ?_ ?_
                      rotate_left
                      · rintro w' ⟨s0, s1, s2, s3, s4, s5⟩
                        go_simp
                        with_reducible rfl
                      rotate_left
                      · simp only [Act.put, List.setIfInBounds_toArray, List.set_cons_zero, List.set_cons_succ, i64_w, i32_w]
                        rfl
                      refine pure_ (i := 6) (N := some 51) (v := ?_) (a' := ?_) #[true, true, true, true, true, true, true, true, false, true, true, true, true, true, false, false, false, false, false, false, false, false, false, false, false] rfl rfl (any_of HT_.out (by kernel_rfl)) (fun _ _ _ h => h) (Or.inl ⟨by rfl, ?_⟩) ?_ ?_
                      rotate_left
                      · intro w'
                        go_simp
                        with_reducible rfl
                      rotate_left
                      · simp only [Act.put, List.setIfInBounds_toArray, List.set_cons_zero, List.set_cons_succ, i64_w, i32_w]
                        rfl
                      refine pure_ (i := 8) (N := some 53) (v := ?_) (a' := ?_) #[true, true, true, true, true, true, true, true, true, true, true, true, true, true, false, false, false, false, false, false, false, false, false, false, false] rfl rfl (any_of HT_.out (by kernel_rfl)) (fun _ _ _ h => h) (Or.inl ⟨by rfl, ?_⟩) ?_ ?_
                      rotate_left
                      · intro w'
                        go_simp
                        with_reducible rfl
                      rotate_left
                      · simp only [Act.put, List.setIfInBounds_toArray, List.set_cons_zero, List.set_cons_succ, i64_w, i32_w]
                        rfl
                      refine take_ (i := 14) (N := some 59) (v := ?_) (a' := ?_) #[true, true, true, true, true, true, true, true, true, true, true, true, true, true, true, false, false, false, false, false, false, false, false, false, false] rfl rfl (take_ofW HT_.out HW_.out (by kernel_rfl)) (fun _ _ _ h => h) (Or.inl ⟨by rfl, ?_⟩) hHeld ?_ ?_
                      rotate_left
                      · rintro w' ⟨s0, s1, s2, s3, s4, s5⟩
                        go_simp
                        with_reducible rfl
                      rotate_left
                      · simp only [Act.put, List.setIfInBounds_toArray, List.set_cons_zero, List.set_cons_succ, i64_w, i32_w]
                        rfl
                      refine pure_ (i := 15) (N := some 60) (v := ?_) (a' := ?_) #[true, true, true, true, true, true, true, true, true, true, true, true, true, true, true, true, false, false, false, false, false, false, false, false, false] rfl rfl (any_of HT_.out (by kernel_rfl)) (fun _ _ _ h => h) (Or.inl ⟨by rfl, ?_⟩) ?_ ?_
                      rotate_left
                      · intro w'
                        go_simp
                        with_reducible rfl
                      rotate_left
                      · simp only [Act.put, List.setIfInBounds_toArray, List.set_cons_zero, List.set_cons_succ, i64_w, i32_w]
                        rfl
                      refine pure_ (i := 16) (N := some 61) (v := ?_) (a' := ?_) #[true, true, true, true, true, true, true, true, true, true, true, true, true, true, true, true, true, false, false, false, false, false, false, false, false] rfl rfl (any_of HT_.out (by kernel_rfl)) (fun _ _ _ h => h) (Or.inl ⟨by rfl, ?_⟩) ?_ ?_
                      rotate_left
                      · intro w'
                        go_simp
                        with_reducible rfl
                      rotate_left
                      · simp only [Act.put, List.setIfInBounds_toArray, List.set_cons_zero, List.set_cons_succ, i64_w, i32_w]
                        rfl
                      refine one_ (i := 17) (N := some 62) #[true, true, true, true, true, true, true, true, true, true, true, true, true, true, true, true, true, true, false, false, false, false, false, false, false] rfl rfl (one_of HT_.out (by kernel_rfl)) (by decide) (fun K hK => ?_)
                      refine goes_ Try.func12 (by kernel_rfl) rfl #[.string (((t220.extract 0 (((rd_T31 t221 (ji16)).f2) : Int).toNat) ++ (⟨#[32, 9, 47, 47, 32, 110, 111, 32, 43, 32, 116, 111, 107, 101, 110, 32, 59, 10, 13]⟩ : ByteArray)) ++ (t220.extract (((rd_T31 t221 (ji16)).f2) : Int).toNat t220.size))] (by rfl) rfl rfl (by (try simp only [List.map_toArray, List.map_cons, List.map_nil]); first | done | (simp only [hji16]; rfl) | rfl | (simp only [List.length_drop, List.length_take]; rfl)) ?_
                      with_reducible refine (token_Lex.calls (((t220.extract 0 (((rd_T31 t221 (ji16)).f2) : Int).toNat) ++ (⟨#[32, 9, 47, 47, 32, 110, 111, 32, 43, 32, 116, 111, 107, 101, 110, 32, 59, 10, 13]⟩ : ByteArray)) ++ (t220.extract (((rd_T31 t221 (ji16)).f2) : Int).toNat t220.size)) t229 t230 t231 _ A25.out).mono ?_
                      rintro e w28 ⟨v232, rfl, ho0, hb⟩
                      have HS0_ := (hb.cell (World.block_lt_of_cell? _ _ (hHeld.1))).trans (hHeld.1)
                      have HS1_ := (hb.cell (World.block_lt_of_cell? _ _ (hHeld.2.1))).trans (hHeld.2.1)
                      have HS2_ := (hb.cell (World.block_lt_of_cell? _ _ (hHeld.2.2.1))).trans (hHeld.2.2.1)
                      have HS3_ := (hb.cell (World.block_lt_of_cell? _ _ (hHeld.2.2.2.1))).trans (hHeld.2.2.2.1)
                      have HS4_ := (hb.cell (World.block_lt_of_cell? _ _ (hHeld.2.2.2.2.1))).trans (hHeld.2.2.2.2.1)
                      have HS5_ := (hb.cell (World.block_lt_of_cell? _ _ (hHeld.2.2.2.2.2))).trans (hHeld.2.2.2.2.2)
                      refine ⟨_, rfl, ?_⟩
                      have n0_ := Aside0.mk (Kd.R_elder' (by (with_reducible repeat (first | apply Kd.R_alloc | apply Kd.R_drewN | apply Kd.R_drew)); exact HO_6.out) (Kd.R_base ho0) hb)
                      have n1_ := Aside0.mk (Kd.R_lower (Kd.R_new' ho0 (Kd.R_lt (by (with_reducible repeat (first | apply Kd.R_alloc | apply Kd.R_drewN | apply Kd.R_drew)); exact HO_6.out))) (below_size (by repeat (first | (with_reducible first | exact HB.out | apply below_alloc | apply pw_below_drewN | apply below_drew1) | exact HB.out))))
                      have n2_ := Aside0.mk (below_step (by repeat (first | (with_reducible first | exact HB.out | apply below_alloc | apply pw_below_drewN | apply below_drew1) | exact HB.out)) hb)
                      clear HO_6
                      clear HB
                      have HO_6 := n0_
                      have HO233 := n1_
                      have HB := n2_
                      clear n0_ n1_ n2_
                      (try clear hb)
                      (try clear hb2)
                      (try clear hk)
                      (try clear hi)
                      (try clear ho0)
                      refine hK.out _ _ ⟨HS0_, HS1_, HS2_, HS3_, HS4_, HS5_⟩ (fun hHeld => ?_)
                      clear hK K
                      refine norm_ (a' := ?_) ?_ ?_
                      rotate_left
                      · show Act.put _ (some 62) _ = _
                        simp only [Act.put, List.setIfInBounds_toArray, List.set_cons_zero, List.set_cons_succ, i64_w, i32_w]
                        rfl
                      refine pure_ (i := 18) (N := some 44) (v := ?_) (a' := ?_) #[true, true, true, true, true, true, true, true, true, true, true, true, true, true, true, true, true, true, true, false, false, false, false, false, false] rfl rfl (any_of HT_.out (by kernel_rfl)) (fun _ _ _ h => h) (Or.inl ⟨by rfl, ?_⟩) ?_ ?_
                      rotate_left
                      · intro w'
                        go_simp
                        with_reducible rfl
                      rotate_left
                      · simp only [Act.put, List.setIfInBounds_toArray, List.set_cons_zero, List.set_cons_succ, i64_w, i32_w]
                        rfl
                      refine pure_ (i := 19) (N := some 63) (v := ?_) (a' := ?_) #[true, true, true, true, true, true, true, true, true, true, true, true, true, true, true, true, true, true, true, true, false, false, false, false, false] rfl rfl (any_of HT_.out (by kernel_rfl)) (fun _ _ _ h => h) (Or.inl ⟨by rfl, ?_⟩) ?_ ?_
                      rotate_left
                      · intro w'
                        go_simp
                        with_reducible rfl
                      rotate_left
                      · simp only [Act.put, List.setIfInBounds_toArray, List.set_cons_zero, List.set_cons_succ, i64_w, i32_w]
                        rfl
                      refine pure_ (i := 20) (N := some 64) (v := ?_) (a' := ?_) #[true, true, true, true, true, true, true, true, true, true, true, true, true, true, true, true, true, true, true, true, true, false, false, false, false] rfl rfl (any_of HT_.out (by kernel_rfl)) (fun _ _ _ h => h) (Or.inl ⟨by rfl, ?_⟩) ?_ ?_
                      rotate_left
                      · intro w'
                        go_simp
                        with_reducible rfl
                      rotate_left
                      · simp only [Act.put, List.setIfInBounds_toArray, List.set_cons_zero, List.set_cons_succ, i64_w, i32_w]
                        rfl
                      refine pure_ (i := 21) (N := some 65) (v := ?_) (a' := ?_) #[true, true, true, true, true, true, true, true, true, true, true, true, true, true, true, true, true, true, true, true, true, true, false, false, false] rfl rfl (any_of HT_.out (by kernel_rfl)) (fun _ _ _ h => h) (Or.inl ⟨by rfl, ?_⟩) ?_ ?_
                      rotate_left
                      · intro w'
                        go_simp
                        with_reducible rfl
                      rotate_left
                      · simp only [Act.put, List.setIfInBounds_toArray, List.set_cons_zero, List.set_cons_succ, i64_w, i32_w]
                        rfl
                      refine pure_ (i := 22) (N := some 11) (v := ?_) (a' := ?_) #[true, true, true, true, true, true, true, true, true, true, true, true, true, true, true, true, true, true, true, true, true, true, true, false, false] rfl rfl (any_of HT_.out (by kernel_rfl)) (fun _ _ _ h => h) (Or.inl ⟨by rfl, ?_⟩) ?_ ?_
                      rotate_left
                      · intro w'
                        go_simp
                        with_reducible rfl
                      rotate_left
                      · simp only [Act.put, List.setIfInBounds_toArray, List.set_cons_zero, List.set_cons_succ, i64_w, i32_w]
                        rfl
                      refine pure_ (i := 23) (N := some 12) (v := ?_) (a' := ?_) #[true, true, true, true, true, true, true, true, true, true, true, true, true, true, true, true, true, true, true, true, true, true, true, true, false] rfl rfl (any_of HT_.out (by kernel_rfl)) (fun _ _ _ h => h) (Or.inl ⟨by rfl, ?_⟩) ?_ ?_
                      rotate_left
                      · intro w'
                        go_simp
                        with_reducible rfl
                      rotate_left
                      · simp only [Act.put, List.setIfInBounds_toArray, List.set_cons_zero, List.set_cons_succ, i64_w, i32_w]
                        rfl
                      refine pure_ (i := 24) (N := some 13) (v := ?_) (a' := ?_) #[true, true, true, true, true, true, true, true, true, true, true, true, true, true, true, true, true, true, true, true, true, true, true, true, true] rfl rfl (any_of HT_.out (by kernel_rfl)) (fun _ _ _ h => h) (Or.inl ⟨by rfl, ?_⟩) ?_ ?_
                      rotate_left
                      · intro w'
                        go_simp
                        with_reducible rfl
                      rotate_left
                      · simp only [Act.put, List.setIfInBounds_toArray, List.set_cons_zero, List.set_cons_succ, i64_w, i32_w]
                        rfl
                      refine done_ (done_of HT_.out (by kernel_rfl)) ?_
                      try go_wp2
                      generalize ad227.add ((ji16).toNat * 3) = adq
                      go_loopg [14] kj4 (fun kq v14 w' => ∃ (x6_2 : List (S31)) (x14_2 : Int), v14 = .int .i64 x14_2 ∧ Aside0 (biremelaw02_TokenBlanks.l0 kq x6_2 (⟨#[32, 9, 47, 47, 32, 110, 111, 32, 43, 32, 116, 111, 107, 101, 110, 32, 59, 10, 13]⟩ : ByteArray) t229 t231 x14_2 = some r) ∧ Aside0 (kq ≤ kj4) ∧ Aside0 (Kd.R k31 31 w' w.heap.size (fun k_ => some k_ ≠ (v232 : Value).ownBlock) (.slice (some ad227) t221.length co26) x6_2) ∧ Aside0 (Kd.R k31 31 w' w.heap.size (fun k_ => some k_ ≠ ((.slice (some ad227) t221.length co26) : Value).ownBlock) v232 t229) ∧ Aside0 (Below w.heap.size w w'))
                      case atStart => exact ⟨(t221), (ji16), (by first | rfl | (simp; done) | (simp only [← hji16] <;> (first | rfl | simp)) | (simp [*]; done)), H', ⟨Nat.le_refl _⟩, ⟨by (with_reducible repeat (first | apply Kd.R_alloc | apply Kd.R_drewN | apply Kd.R_drew)); exact Kd.R_mono HO_6.out (fun _ hk => hk.2)⟩, ⟨by (with_reducible repeat (first | apply Kd.R_alloc | apply Kd.R_drewN | apply Kd.R_drew)); exact Kd.R_mono HO233.out (fun _ hk => hk.2)⟩, ⟨by repeat (first | (with_reducible first | exact HB.out | apply below_alloc | apply pw_below_drewN | apply below_drew1) | exact HB.out)⟩⟩
                      case round =>
                        clear H'
                        try clear c1
                        try clear c2
                        try clear p2
                        try clear q2
                        try clear hx2
                        try clear c6
                        try clear p6
                        try clear c8
                        try clear c8b0
                        try clear c8b1
                        try clear c9
                        try clear c9b0
                        try clear c9b1
                        try clear c9b2
                        try clear c11
                        try clear c12
                        try clear c15
                        try clear c15b0
                        try clear c15b1
                        try clear c15b2
                        try clear c17
                        try clear c17b0
                        try clear c18
                        try clear c18b0
                        try clear c19
                        try clear c19b0
                        try clear c19b1
                        try clear c20
                        try clear c20b0
                        try clear c20b1
                        try clear c21
                        try clear c21b0
                        try clear c21b1
                        try clear c21b2
                        try clear c22
                        try clear c22b0
                        try clear p22
                        try clear q22
                        try clear hx22
                        try clear c23
                        try clear c23b0
                        try clear c24
                        try clear c24b0
                        try clear c24b1
                        try clear c24b2
                        try clear hx227_0
                        try clear hx227_1
                        try clear hx227_2
                        try clear hx228_0
                        try clear hx228_1
                        try clear hx228_2
                        try clear p2
                        try clear p227
                        try clear p228
                        try clear p6
                        try clear q227
                        try clear q228
                        obtain ⟨x6_2, x14_2, rfl, HA, HK2, HO_6, HO_11, HB⟩ := hrel
                        have hl6_2 := (Kd.R_reads' HO_6.out).1
                        rw [hl6_2] at HO_6
                        (try simp only [hl6_2])
                        (try simp only [hl6_2] at HO_11)
                        cases gk with
                        | zero => exact absurd HA.out (by simp [biremelaw02_TokenBlanks.l0])
                        | succ k2 =>
                          have H := HA.out
                          clear HA
                          simp only [biremelaw02_TokenBlanks.l0] at H
                          by_cases c29 : x14_2 < (x6_2.length : Int)
                          · rw [if_pos c29] at H
                            have c29b0 : decide (x14_2 < (x6_2.length : Int)) = true := decide_eq_true c29
                            clear c29
                            by_cases c30 : 0 ≤ x14_2
                            · rw [if_pos c30] at H
                              have c30b0 : decide (0 ≤ x14_2) = true := decide_eq_true c30
                              clear c30
                              obtain ⟨y235, hy235⟩ : ∃ y_ : List (S31), y_ = (x6_2.set (x14_2 : Int).toNat (⟨(rd_T31 x6_2 x14_2).f0, (rd_T31 x6_2 x14_2).f1, wrap64 (((rd_T31 x6_2 x14_2).f2) + ((⟨#[32, 9, 47, 47, 32, 110, 111, 32, 43, 32, 116, 111, 107, 101, 110, 32, 59, 10, 13]⟩ : ByteArray).size : Int))⟩ : S31)) := ⟨_, rfl⟩
                              replace H : (biremelaw02_TokenBlanks.l0 k2 y235 (⟨#[32, 9, 47, 47, 32, 110, 111, 32, 43, 32, 116, 111, 107, 101, 110, 32, 59, 10, 13]⟩ : ByteArray) t229 t231 (wrap64 (x14_2 + 1))) = some r := by first | (rw [hy235]; with_reducible exact H) | (have H2_ := (Option.bind_some _ _).symm.trans H; rw [hy235]; with_reducible exact H2_) | (have H2_ := (Option.bind_some _ _).symm.trans H; with_reducible exact H2_) | with_reducible exact H | (rw [hy235]; exact H) | exact H
                              have Ny235 := Aside0.mk hy235
                              clear hy235
                              have H' := Aside0.mk H
                              clear H
                              have p234 : 0 ≤ (x14_2 : Int) := of_decide_eq_true (by first | (with_reducible assumption) | assumption)
                              have q234 : x14_2 < (x6_2.length : Int) := of_decide_eq_true (by first | (with_reducible assumption) | assumption)
                              obtain ⟨ad234, e234, hx234_0, hx234_1, hx234_2⟩ := at_T31 (Kd.R_reads' HO_6.out).2.2 x14_2 p234 q234
                              obtain rfl : ad227 = ad234 := (by injection e234)
                              replace p234 := eq_true p234
                              replace q234 := eq_true q234
                              have p31 : 0 ≤ (x14_2 : Int) := of_decide_eq_true (by first | (with_reducible assumption) | assumption)
                              have q31 : (x14_2 : Int) < ((x6_2.length : Int) : Int) := of_decide_eq_true (by first | (with_reducible assumption) | assumption)
                              obtain ⟨go31, co31, eo31, gb31, gl31, cl31, HG31⟩ := Kd.R_form HO_6.out (by omega)
                              (first | cases eo31 | (injection eo31 with ea_ en_ ec_; (first | subst ea_ | (injection ea_ with ea_; subst ea_)); subst ec_; clear en_))
                              have GB31 := Aside0.mk gb31
                              have GG31 := Aside0.mk HG31
                              clear gb31 gl31 HG31
                              (first | simp only [add_plain] at hx227_0 | skip)
                              (first | simp only [add_plain] at hx227_1 | skip)
                              (first | simp only [add_plain] at hx227_2 | skip)
                              (first | simp only [add_plain] at hx228_0 | skip)
                              (first | simp only [add_plain] at hx228_1 | skip)
                              (first | simp only [add_plain] at hx228_2 | skip)
                              (first | simp only [add_plain] at hx234_0 | skip)
                              (first | simp only [add_plain] at hx234_1 | skip)
                              (first | simp only [add_plain] at hx234_2 | skip)
                              obtain ⟨ce31, hcl31, hM31, hcc31, hfr31⟩ := Kd.R_elem HO_6.out z31 (x14_2 : Int) p31 q31
                              obtain rfl := k31_openM hM31
                              have hx31_0 : wr.cell? ⟨go31, (x14_2 : Int).toNat * 3, none⟩ = some (.int .i64 ((rd_T31 x6_2 x14_2).f0)) := hcc31 0 _ rfl
                              have hx31_1 : wr.cell? ⟨go31, (x14_2 : Int).toNat * 3 + 1, none⟩ = some (.string ((rd_T31 x6_2 x14_2).f1)) := hcc31 1 _ rfl
                              have hx31_2 : wr.cell? ⟨go31, (x14_2 : Int).toNat * 3 + 2, none⟩ = some (.int .i64 ((rd_T31 x6_2 x14_2).f2)) := hcc31 2 _ rfl
                              have hf31_0 : wr.frozen? ⟨go31, (x14_2 : Int).toNat * 3, none⟩ = false := hfr31 0
                              have hf31_1 : wr.frozen? ⟨go31, (x14_2 : Int).toNat * 3 + 1, none⟩ = false := hfr31 1
                              have hf31_2 : wr.frozen? ⟨go31, (x14_2 : Int).toNat * 3 + 2, none⟩ = false := hfr31 2
                              clear hcl31 hcc31 hfr31 hM31
                              replace p31 := eq_true p31
                              replace q31 := eq_true q31
                              have HX32 := Aside0.mk (show Kd.R k31 31 wr w.heap.size (fun k_ => some k_ ≠ (v232 : Value).ownBlock) (.slice (some ⟨go31, 0, none⟩) x6_2.length co26) x6_2 from (by (with_reducible repeat (first | apply Kd.R_alloc | apply Kd.R_drewN | apply Kd.R_drew)); exact HO_6.out))
                              obtain ⟨ce32, hcl32, hM32, hcc32, hfr32⟩ := Kd.R_elem HX32.out z31 (x14_2 : Int) (of_decide_eq_true (by first | (with_reducible assumption) | assumption)) (by have h_ : (x14_2 : Int) < ((x6_2.length : Int) : Int) := of_decide_eq_true (by first | (with_reducible assumption) | assumption); first | exact h_ | (have e_ := (Kd.R_reads' HO_6.out).1; omega) | simpa using h_)
                              obtain rfl := k31_openM hM32
                              have HP32 := Kd.R_seg HX32.out (x14_2 : Int) (of_decide_eq_true (by first | (with_reducible assumption) | assumption)) (by have h_ : (x14_2 : Int) < ((x6_2.length : Int) : Int) := of_decide_eq_true (by first | (with_reducible assumption) | assumption); first | exact h_ | (have e_ := (Kd.R_reads' HO_6.out).1; omega) | simpa using h_) (seg := [.int .i64 (wrap64 (((rd_T31 x6_2 x14_2).f2) + ((⟨#[32, 9, 47, 47, 32, 110, 111, 32, 43, 32, 116, 111, 107, 101, 110, 32, 59, 10, 13]⟩ : ByteArray).size : Int)))]) (j := 2) hcl32 hcc32 (show 3 ≤ 3 from by decide) (x' := (⟨(rd_T31 x6_2 x14_2).f0, (rd_T31 x6_2 x14_2).f1, wrap64 (((rd_T31 x6_2 x14_2).f2) + ((⟨#[32, 9, 47, 47, 32, 110, 111, 32, 43, 32, 116, 111, 107, 101, 110, 32, 59, 10, 13]⟩ : ByteArray).size : Int))⟩ : S31)) (k31_mkM _ _ _ (⟨(rd_T31 x6_2 x14_2).f0, (rd_T31 x6_2 x14_2).f1, wrap64 (((rd_T31 x6_2 x14_2).f2) + ((⟨#[32, 9, 47, 47, 32, 110, 111, 32, 43, 32, 116, 111, 107, 101, 110, 32, 59, 10, 13]⟩ : ByteArray).size : Int))⟩ : S31) ) (fun _ hk => hk)
                              have hx32_2 := hcc32 2 _ rfl
                              (try simp only [show (k31).sz = 3 from rfl, Nat.mul_one, Nat.add_zero] at hx32_2)
                              have hf32_2 := hfr32 2
                              (try simp only [show (k31).sz = 3 from rfl, Nat.mul_one, Nat.add_zero] at hf32_2)
                              clear hcl32 hcc32 hfr32 hM32
                              go_wp2_with (first | ((with_reducible refine gate_store (t := 3) (p := 82) rfl ?_); refine store_event (t := 3) (p := 82) (v := ?vo_w33) (w1 := (wr.setCell ⟨go31, (x14_2 : Int).toNat * 3 + 2, none⟩ (.int .i64 (wrap64 (((rd_T31 x6_2 x14_2).f2) + ((⟨#[32, 9, 47, 47, 32, 110, 111, 32, 43, 32, 116, 111, 107, 101, 110, 32, 59, 10, 13]⟩ : ByteArray).size : Int)))))) ?hg ?ho ?hn ?hr ?_; (case ho => rfl); (case hg => rfl); (case hn => rfl); (case hr => first | (go_simp; done) | (go_simp; rfl)); intro w33 hw; have hg : wr.grownBy w33 (some go31) := (by rw [hw]; exact HP32.2); have hp_ : Kd.R k31 31 w33 w.heap.size (fun k_ => some k_ ≠ (v232 : Value).ownBlock) (.slice (some ⟨go31, 0, none⟩) x6_2.length co26) y235 := (by rw [hw, Ny235.out]; exact HP32.1); clear HP32; have n0_ := Aside0.mk (hp_); have n1_ := Aside0.mk (Kd.R_after (v := (.slice (some ⟨go31, 0, none⟩) x6_2.length co26)) (v1 := (.slice (some ⟨go31, 0, none⟩) x6_2.length co26)) (ok := (fun _ => True)) (by (with_reducible repeat (first | apply Kd.R_alloc | apply Kd.R_drewN | apply Kd.R_drew)); exact Kd.R_mono HO_11.out (fun _ hk => ⟨trivial, hk⟩)) hg (.inl rfl)); have n2_ := Aside0.mk ((by rw [hw]; exact below_set (HB.out) GB31.out : Below w.heap.size w w33)); clear HO_6; clear HO_11; clear HB; have HO_6 := n0_; have HO_11 := n1_; have HB := n2_; clear n0_ n1_ n2_; clear hg hw hp_))
                              (try simp only [← hl6_2])
                              go_roundg k2
                              case measure => have := HJ4.out; have := HK2.out; omega
                              case rel => exact ⟨(y235), (wrap64 (x14_2 + 1)), (by first | rfl | (simp; done) | (simp [*]; done)), H', ⟨by have := HJ4.out; have := HK2.out; omega⟩, ⟨by (try simp only [hl6_2]); (with_reducible repeat (first | apply Kd.R_alloc | apply Kd.R_drewN | apply Kd.R_drew)); exact HO_6.out⟩, ⟨by (try simp only [hl6_2]); (with_reducible repeat (first | apply Kd.R_alloc | apply Kd.R_drewN | apply Kd.R_drew)); exact Kd.R_mono HO_11.out (fun _ hk => hk.2)⟩, ⟨by repeat (first | (with_reducible first | exact HB.out | apply below_alloc | apply pw_below_drewN | apply below_drew1) | exact HB.out)⟩⟩
                            · rw [if_neg c30] at H
                              exact absurd H (by simp)
                          · rw [if_neg c29] at H
                            have c29b0 : decide (x14_2 < (x6_2.length : Int)) = false := decide_eq_false c29
                            clear c29
                            by_cases c34 : t231 = 0
                            · rw [if_pos c34] at H
                              have c34b0 : (t231 == 0) = true := beq_iff_eq.mpr c34
                              have c34b1 : (t231 != 0) = false := bne_eq_false_iff_eq.mpr c34
                              clear c34
                              replace H := Option.bind_eq_some_iff.mp H
                              obtain ⟨t236, A350, H⟩ := H
                              replace H : (if t236 = true then ((biremelaw02_alive.f k2).bind fun t237 => (some t237)) else (some false)) = some r := H
                              have A35 := Aside0.mk A350
                              clear A350
                              by_cases c36 : t236 = true
                              · subst c36
                                have H1 : ((biremelaw02_alive.f k2).bind fun t237 => (some t237)) = some r := by rw [if_pos rfl] at H; exact H
                                clear H
                                have H := H1
                                clear H1
                                replace H := Option.bind_eq_some_iff.mp H
                                obtain ⟨t237, A370, H⟩ := H
                                replace H : (some t237) = some r := H
                                have A37 := Aside0.mk A370
                                clear A370
                                obtain rfl := Option.some.inj H
                                obtain ⟨Ao38, co38, eo38⟩ := Kd.R_slice HO_11.out
                                subst eo38
                                go_wp2_with (first | (go_at_call 14; (with_reducible refine (biremeref02_Same.calls k2 _ _ x6_2 _ _ t229 true true _ ?side1 ?side2 ?side3 ?side4 A35.out).mono ?_); (case side1 => repeat (first | exact (Kd.R_reads' HO_6.out).2.2 | (with_reducible refine Kd.C_alloc ?_ _) | (with_reducible refine Kd.C_drewN ?_ _) | (with_reducible refine Kd.C_drew ?_))); (case side2 => exact (Kd.R_reads' HO_6.out).2.1); (case side3 => repeat (first | exact (Kd.R_reads' HO_11.out).2.2 | (with_reducible refine Kd.C_alloc ?_ _) | (with_reducible refine Kd.C_drewN ?_ _) | (with_reducible refine Kd.C_drew ?_))); (case side4 => exact (Kd.R_reads' HO_11.out).2.1); rintro e w' ⟨rfl, ⟨nd, rfl⟩⟩) | (go_at_call 15; (with_reducible refine (biremelaw02_alive.calls k2  t237 _ A37.out).mono ?_); rintro e w39 ⟨rfl, hb⟩; have n0_ := Aside0.mk (Kd.R_below (by (with_reducible repeat (first | apply Kd.R_alloc | apply Kd.R_drewN | apply Kd.R_drew)); exact HO_6.out) hb); have n1_ := Aside0.mk (Kd.R_below (by (with_reducible repeat (first | apply Kd.R_alloc | apply Kd.R_drewN | apply Kd.R_drew)); exact HO_11.out) hb); have n2_ := Aside0.mk (below_step (by repeat (first | (with_reducible first | exact HB.out | apply below_alloc | apply pw_below_drewN | apply below_drew1) | exact HB.out)) hb); clear HO_6; clear HO_11; clear HB; have HO_6 := n0_; have HO_11 := n1_; have HB := n2_; clear n0_ n1_ n2_; (try clear hb); (try clear hb2); (try clear hk); (try clear hi)))
                                go_ret
                                exact ⟨by first | rfl | (simp [errW_none, errW_some] <;> rfl) | (simp only [← hji16]; first | rfl | (simp [errW_none, errW_some] <;> rfl)) | (simp [*, errW_none, errW_some] <;> rfl), by repeat (first | (with_reducible first | exact HB.out | apply below_alloc | apply pw_below_drewN | apply below_drew1) | exact HB.out)⟩
                              · replace c36 := Bool.eq_false_iff.mpr c36
                                subst c36
                                have H1 : (some false) = some r := by rw [if_neg (show ¬ (false = true) by decide)] at H; exact H
                                clear H
                                have H := H1
                                clear H1
                                obtain rfl := Option.some.inj H
                                obtain ⟨Ao40, co40, eo40⟩ := Kd.R_slice HO_11.out
                                subst eo40
                                go_wp2_with (first | (go_at_call 14; (with_reducible refine (biremeref02_Same.calls k2 _ _ x6_2 _ _ t229 true false _ ?side1 ?side2 ?side3 ?side4 A35.out).mono ?_); (case side1 => repeat (first | exact (Kd.R_reads' HO_6.out).2.2 | (with_reducible refine Kd.C_alloc ?_ _) | (with_reducible refine Kd.C_drewN ?_ _) | (with_reducible refine Kd.C_drew ?_))); (case side2 => exact (Kd.R_reads' HO_6.out).2.1); (case side3 => repeat (first | exact (Kd.R_reads' HO_11.out).2.2 | (with_reducible refine Kd.C_alloc ?_ _) | (with_reducible refine Kd.C_drewN ?_ _) | (with_reducible refine Kd.C_drew ?_))); (case side4 => exact (Kd.R_reads' HO_11.out).2.1); rintro e w' ⟨rfl, ⟨nd, rfl⟩⟩))
                                go_ret
                                exact ⟨by first | rfl | (simp [errW_none, errW_some] <;> rfl) | (simp only [← hji16]; first | rfl | (simp [errW_none, errW_some] <;> rfl)) | (simp [*, errW_none, errW_some] <;> rfl), by repeat (first | (with_reducible first | exact HB.out | apply below_alloc | apply pw_below_drewN | apply below_drew1) | exact HB.out)⟩
                            · rw [if_neg c34] at H
                              have c34b0 : (t231 == 0) = false := beq_eq_false_iff_ne.mpr c34
                              have c34b1 : (t231 != 0) = true := bne_iff_ne.mpr c34
                              obtain rfl := Option.some.inj H
                              go_wp2
                              go_ret
                              exact ⟨by first | rfl | (simp [errW_none, errW_some] <;> rfl) | (simp only [← hji16]; first | rfl | (simp [errW_none, errW_some] <;> rfl)) | (simp [*, errW_none, errW_some] <;> rfl), by repeat (first | (with_reducible first | exact HB.out | apply below_alloc | apply pw_below_drewN | apply below_drew1) | exact HB.out)⟩
                    · rw [if_neg c24] at H
                      exact absurd H (by simp)
                  · rw [if_neg c21] at H
                    exact absurd H (by simp)
                · rw [if_neg c20] at H
                  exact absurd H (by simp)
              · rw [if_neg c19] at H
                exact absurd H (by simp)
            · rw [if_neg c18] at H
              exact absurd H (by simp)
          · rw [if_neg c17] at H
            exact absurd H (by simp)

/-- THE ONE PURE STATEMENT of biremelaw02_TokenBlanks: yours. -/
def biremelaw02_TokenBlanks.Pure : Prop := ∀ (a0 : ByteArray) (a1 : Int), a0.size ≤ 140737488351232 → (Lit.int .u16 a1).wf = true → ∃ k, biremelaw02_TokenBlanks.f k a0 a1 = some true
theorem biremelaw02_TokenBlanks.walk (P : biremelaw02_TokenBlanks.Pure) (a0 : ByteArray) (a1 : Int) (w : World) (w0 : a0.size ≤ 140737488351232) (w1 : (Lit.int .u16 a1).wf = true) :
    Calls Try.prog 6 #[.string a0, .int .u16 a1] w fun e w' => e = .returned (.bool true) ∧ Below w.heap.size w w' := by
  obtain ⟨k, h⟩ := P a0 a1 w0 w1
  refine (biremelaw02_TokenBlanks.calls k a0 a1 true w h).mono ?_
  rintro e w' ⟨rfl, hd⟩
  exact ⟨rfl, hd⟩

end Go.Proofs.Ytpccakfbmbkmlaa.PAll
