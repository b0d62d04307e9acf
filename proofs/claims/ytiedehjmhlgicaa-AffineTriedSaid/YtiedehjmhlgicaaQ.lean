/- The plain definitions of the seat's functions, and: a call of each small function that makes no block returns what its plain definition tells. -/
import Derived.Test.YtiedehjmhlgicaaProg
import Derived.Below
import Derived.Deep.Draws
import Derived.Deep.AppendLies
import Derived.Maps.AppendAt
import Derived.OwnWalk
import Derived.Laws.BytesArg
import Derived.Laws.MakeOwn
import Derived.Laws.OwnMore
import Derived.Deep.OwnRows
import Derived.Tactics
import Derived.Lib.ConvBytes
import Derived.Laws.Slices
import Derived.WalkKit
import Derived.KernelRfl
import Derived.RowKit3
import Derived.Deep.LoopGhost
import Derived.Deep.QuietTactic
import Derived.BigQuiet
import Derived.WideLaws
import Derived.Deep.DeepCutAuto
import Derived.Deep.CutBlock
import Derived.Deep.RegionHeld3
import Derived.Laws.Rows
import Derived.Lib.AppendStr
import Derived.ArgAppend
import Derived.Laws.IdiomCopy
import Derived.OrdersHeld
import Derived.Laws.BitsLemmas
import Derived.RowKit
import Derived.Test.YtiedehjmhlgicaaVWWords
import Derived.Test.YtiedehjmhlgicaaVWLast
import Derived.Test.YtiedehjmhlgicaaVWTab
import Derived.Test.YtiedehjmhlgicaaVWEqStruct
import Derived.Test.YtiedehjmhlgicaaVWRepsOne
import Derived.Test.YtiedehjmhlgicaaVWGuard
import Derived.Test.YtiedehjmhlgicaaVWMore
namespace Go.Proofs.Ytiedehjmhlgicaa.PAll
open Go.RowKit Go.Proofs.YtiedehjmhlgicaaW.PrintWords Go.Proofs.YtiedehjmhlgicaaW.PrintLast Go.Proofs.YtiedehjmhlgicaaW.PrintMore
attribute [local go_sem] max2_int min2_int max_two min_two max_three min_three max_four min_four   -- for this text's walks alone
set_option linter.unusedVariables false
set_option linter.unusedSimpArgs false



def errW : Option Int → Value
  | none => .nilIface
  | some c => .iface 0 (.int .i64 c)
theorem errW_none : errW none = .nilIface := rfl
theorem errW_some (c : Int) : errW (some c) = .iface 0 (.int .i64 c) := rfl

theorem info2 : (Try.prog.info? 2).map (fun i => (i.zero, i.size, i.bytes)) = some (some (.int .i64 0), 1, 8) := by kernel_rfl
-- the values' own types

theorem eqA23 (d : Nat) (w : World) (x0 y0 : Int) (x1 y1 : Int) (x2 y2 : Int) (x3 y3 : Int) :
    (Op.equalIn (d + 2) 23 (.agg #[.int .i64 x0, .int .i64 x1, .int .i64 x2, .int .i64 x3]) (.agg #[.int .i64 y0, .int .i64 y1, .int .i64 y2, .int .i64 y3])).run Try.prog w = .ok (x0 == y0 && (x1 == y1 && (x2 == y2 && (x3 == y3)))) w := by
  refine eqA_of Try.underlying23 (by kernel_rfl) ?_
  refine eqf_cons (by rfl) (by go_simp; rfl) (by go_simp; rfl) (by go_simp) ?_
  refine eqf_cons (by rfl) (by go_simp; rfl) (by go_simp; rfl) (by go_simp) ?_
  refine eqf_cons (by rfl) (by go_simp; rfl) (by go_simp; rfl) (by go_simp) ?_
  exact eqf_last (by rfl) (by go_simp; rfl) (by go_simp; rfl) (by go_simp)

/-! ### biremeref14_Within: function 15 -/
def biremeref14_Within.l0 : Nat → List Int → Int → Option (Bool)
  | 0, _, _ => none
  | k + 1, x0, x3 => if x3 < (x0.length : Int) then (if 0 ≤ x3 then (if (rd x0 x3) < (-2147483648) then (some false) else (if (rd x0 x3) > 2147483648 then (some false) else (biremeref14_Within.l0 k x0 (wrap64 (x3 + 1))))) else (none)) else (some true)
def biremeref14_Within.f (k : Nat) (l0 : List Int) : Option (Bool) := biremeref14_Within.l0 k l0 0
theorem biremeref14_Within.mono_l : ∀ k, (∀ y0 y1, LeO (biremeref14_Within.l0 k y0 y1) (biremeref14_Within.l0 (k + 1) y0 y1))
  | 0 => fun _ _ r h => by simp [biremeref14_Within.l0] at h
  | k + 1 => by
    have ih0 := biremeref14_Within.mono_l k
    · intro y0 y1
      unfold biremeref14_Within.l0
      repeat' first
      | (with_reducible exact ih0 _ _)
      | (with_reducible exact LeO.refl _)
      | (with_reducible exact LeO.none _)
      | (with_reducible refine LeO.ite ?_ ?_)
      | (with_reducible refine LeO.bind ?_ (fun _ => ?_))
      | exact ih0 _ _
      | exact LeO.none _
      | refine LeO.ite ?_ ?_
      | refine LeO.bind ?_ (fun _ => ?_)
theorem biremeref14_Within.mono : ∀ a0 k, LeO (biremeref14_Within.f k a0) (biremeref14_Within.f (k + 1) a0) := by
  intro a0 k
  have ih0 := biremeref14_Within.mono_l k
  unfold biremeref14_Within.f
  repeat' first
      | (with_reducible exact ih0 _ _)
      | (with_reducible exact LeO.refl _)
      | (with_reducible exact LeO.none _)
      | (with_reducible refine LeO.ite ?_ ?_)
      | (with_reducible refine LeO.bind ?_ (fun _ => ?_))
      | exact ih0 _ _
      | exact LeO.none _
      | refine LeO.ite ?_ ?_
      | refine LeO.bind ?_ (fun _ => ?_)
set_option maxHeartbeats 8000000 in
set_option maxRecDepth 100000 in
theorem biremeref14_Within.calls (k : Nat) (A0 : Option Addr) (c0 : Nat) (l0 : List Int) (r : Bool) (w : World) (hr0 : Kd.C (Kd.int .i64) w A0 l0.length l0) (hc0 : l0.length ≤ c0) (h : biremeref14_Within.f k l0 = some r) :
    Calls Try.prog 15 #[.slice A0 l0.length c0] w fun e w' => e = .returned (.bool r) ∧ Drawn0 w w' := by
  have HR0 := Aside0.mk hr0
  have HC0 := Aside0.mk hc0
  clear hr0 hc0
  have H : (biremeref14_Within.l0 k l0 0) = some r := h
  clear h
  have H' := Aside0.mk H
  clear H
  go_enter Try.func15, Try.ntmps15
  go_wp2
  go_loopg [3] k (fun kq v3 w' => ∃ (x3_1 : Int), v3 = .int .i64 x3_1 ∧ Aside0 (biremeref14_Within.l0 kq l0 x3_1 = some r) ∧ Aside0 (kq ≤ k) ∧ Drawn0 w w')
  case atStart => exact ⟨(0), (by first | rfl | (simp; done) | (simp [*]; done)), H', ⟨Nat.le_refl _⟩, by repeat (first | exact Drawn0.refl _ | apply Drawn0.step)⟩
  case round =>
    clear H'
    try clear c1
    obtain ⟨x3_1, rfl, HA, HK1, ⟨m1, rfl⟩⟩ := hrel
    cases gk with
    | zero => exact absurd HA.out (by simp [biremeref14_Within.l0])
    | succ k1 =>
      have H := HA.out
      clear HA
      simp only [biremeref14_Within.l0] at H
      by_cases c2 : x3_1 < (l0.length : Int)
      · rw [if_pos c2] at H
        have c2b0 : decide (x3_1 < (l0.length : Int)) = true := decide_eq_true c2
        clear c2
        by_cases c3 : 0 ≤ x3_1
        · rw [if_pos c3] at H
          have c3b0 : decide (0 ≤ x3_1) = true := decide_eq_true c3
          clear c3
          by_cases c4 : (rd l0 x3_1) < (-2147483648)
          · rw [if_pos c4] at H
            have c4b0 : decide ((rd l0 x3_1) < (-2147483648)) = true := decide_eq_true c4
            clear c4
            obtain rfl := Option.some.inj H
            have p101 : 0 ≤ (x3_1 : Int) := of_decide_eq_true (by first | (with_reducible assumption) | assumption)
            have q101 : x3_1 < (l0.length : Int) := of_decide_eq_true (by first | (with_reducible assumption) | assumption)
            obtain ⟨ad101, e101, hx101_0⟩ := Kd.at_int HR0.out x3_1 p101 q101
            cases e101
            replace p101 := eq_true p101
            replace q101 := eq_true q101
            go_wp2
            go_ret
            exact ⟨by first | rfl | (simp; done) | (simp [*]; done), by repeat (first | exact Drawn0.refl _ | apply Drawn0.step)⟩
          · rw [if_neg c4] at H
            have c4b0 : decide ((rd l0 x3_1) < (-2147483648)) = false := decide_eq_false c4
            clear c4
            by_cases c5 : (rd l0 x3_1) > 2147483648
            · rw [if_pos c5] at H
              have c5b0 : decide (2147483648 < (rd l0 x3_1)) = true := decide_eq_true c5
              clear c5
              obtain rfl := Option.some.inj H
              have p101 : 0 ≤ (x3_1 : Int) := of_decide_eq_true (by first | (with_reducible assumption) | assumption)
              have q101 : x3_1 < (l0.length : Int) := of_decide_eq_true (by first | (with_reducible assumption) | assumption)
              obtain ⟨ad101, e101, hx101_0⟩ := Kd.at_int HR0.out x3_1 p101 q101
              cases e101
              replace p101 := eq_true p101
              replace q101 := eq_true q101
              have p102 : 0 ≤ (x3_1 : Int) := of_decide_eq_true (by first | (with_reducible assumption) | assumption)
              have q102 : x3_1 < (l0.length : Int) := of_decide_eq_true (by first | (with_reducible assumption) | assumption)
              obtain ⟨ad102, e102, hx102_0⟩ := Kd.at_int HR0.out x3_1 p102 q102
              obtain rfl : ad101 = ad102 := (by injection e102)
              replace p102 := eq_true p102
              replace q102 := eq_true q102
              go_wp2
              go_ret
              exact ⟨by first | rfl | (simp; done) | (simp [*]; done), by repeat (first | exact Drawn0.refl _ | apply Drawn0.step)⟩
            · rw [if_neg c5] at H
              have c5b0 : decide (2147483648 < (rd l0 x3_1)) = false := decide_eq_false c5
              clear c5
              have H' := Aside0.mk H
              clear H
              have p101 : 0 ≤ (x3_1 : Int) := of_decide_eq_true (by first | (with_reducible assumption) | assumption)
              have q101 : x3_1 < (l0.length : Int) := of_decide_eq_true (by first | (with_reducible assumption) | assumption)
              obtain ⟨ad101, e101, hx101_0⟩ := Kd.at_int HR0.out x3_1 p101 q101
              cases e101
              replace p101 := eq_true p101
              replace q101 := eq_true q101
              have p102 : 0 ≤ (x3_1 : Int) := of_decide_eq_true (by first | (with_reducible assumption) | assumption)
              have q102 : x3_1 < (l0.length : Int) := of_decide_eq_true (by first | (with_reducible assumption) | assumption)
              obtain ⟨ad102, e102, hx102_0⟩ := Kd.at_int HR0.out x3_1 p102 q102
              obtain rfl : ad101 = ad102 := (by injection e102)
              replace p102 := eq_true p102
              replace q102 := eq_true q102
              go_wp2
              go_roundg k1
              case measure => have := HK1.out; omega
              case rel => exact ⟨(wrap64 (x3_1 + 1)), (by first | rfl | (simp; done) | (simp [*]; done)), H', ⟨by have := HK1.out; omega⟩, by repeat (first | exact Drawn0.refl _ | apply Drawn0.step)⟩
        · rw [if_neg c3] at H
          exact absurd H (by simp)
      · rw [if_neg c2] at H
        have c2b0 : decide (x3_1 < (l0.length : Int)) = false := decide_eq_false c2
        clear c2
        obtain rfl := Option.some.inj H
        go_wp2
        go_ret
        exact ⟨by first | rfl | (simp; done) | (simp [*]; done), by repeat (first | exact Drawn0.refl _ | apply Drawn0.step)⟩

/-! ### affine_small: function 33 -/
def affine_small.l0 : Nat → List Int → Int → Int → Option (Bool)
  | 0, _, _, _ => none
  | k + 1, x5, x6, x7 => if x7 < x6 then (if 0 ≤ x7 then (if x7 < (x5.length : Int) then (if (rd x5 x7) < (-2147483648) then (some false) else (if (rd x5 x7) > 2147483648 then (some false) else (affine_small.l0 k x5 x6 (wrap64 (x7 + 1))))) else (none)) else (none)) else (some true)
def affine_small.f (k : Nat) (l0 : List Int) : Option (Bool) := affine_small.l0 k l0 (l0.length : Int) 0
theorem affine_small.mono_l : ∀ k, (∀ y0 y1 y2, LeO (affine_small.l0 k y0 y1 y2) (affine_small.l0 (k + 1) y0 y1 y2))
  | 0 => fun _ _ _ r h => by simp [affine_small.l0] at h
  | k + 1 => by
    have ih0 := affine_small.mono_l k
    · intro y0 y1 y2
      unfold affine_small.l0
      repeat' first
      | (with_reducible exact ih0 _ _ _)
      | (with_reducible exact LeO.refl _)
      | (with_reducible exact LeO.none _)
      | (with_reducible refine LeO.ite ?_ ?_)
      | (with_reducible refine LeO.bind ?_ (fun _ => ?_))
      | exact ih0 _ _ _
      | exact LeO.none _
      | refine LeO.ite ?_ ?_
      | refine LeO.bind ?_ (fun _ => ?_)
theorem affine_small.mono : ∀ a0 k, LeO (affine_small.f k a0) (affine_small.f (k + 1) a0) := by
  intro a0 k
  have ih0 := affine_small.mono_l k
  unfold affine_small.f
  repeat' first
      | (with_reducible exact ih0 _ _ _)
      | (with_reducible exact LeO.refl _)
      | (with_reducible exact LeO.none _)
      | (with_reducible refine LeO.ite ?_ ?_)
      | (with_reducible refine LeO.bind ?_ (fun _ => ?_))
      | exact ih0 _ _ _
      | exact LeO.none _
      | refine LeO.ite ?_ ?_
      | refine LeO.bind ?_ (fun _ => ?_)
set_option maxHeartbeats 8000000 in
set_option maxRecDepth 100000 in
theorem affine_small.calls (k : Nat) (A0 : Option Addr) (c0 : Nat) (l0 : List Int) (r : Bool) (w : World) (hr0 : Kd.C (Kd.int .i64) w A0 l0.length l0) (hc0 : l0.length ≤ c0) (h : affine_small.f k l0 = some r) :
    Calls Try.prog 33 #[.slice A0 l0.length c0] w fun e w' => e = .returned (.bool r) ∧ Drawn0 w w' := by
  have HR0 := Aside0.mk hr0
  have HC0 := Aside0.mk hc0
  clear hr0 hc0
  have H : (affine_small.l0 k l0 (l0.length : Int) 0) = some r := h
  clear h
  have H' := Aside0.mk H
  clear H
  go_enter Try.func33, Try.ntmps33
  go_wp2
  go_loopg [7] k (fun kq v7 w' => ∃ (x7_1 : Int), v7 = .int .i64 x7_1 ∧ Aside0 (affine_small.l0 kq l0 (l0.length : Int) x7_1 = some r) ∧ Aside0 (kq ≤ k) ∧ Drawn0 w w')
  case atStart => exact ⟨(0), (by first | rfl | (simp; done) | (simp [*]; done)), H', ⟨Nat.le_refl _⟩, by repeat (first | exact Drawn0.refl _ | apply Drawn0.step)⟩
  case round =>
    clear H'
    obtain ⟨x7_1, rfl, HA, HK1, ⟨m1, rfl⟩⟩ := hrel
    cases gk with
    | zero => exact absurd HA.out (by simp [affine_small.l0])
    | succ k1 =>
      have H := HA.out
      clear HA
      simp only [affine_small.l0] at H
      by_cases c2 : x7_1 < (l0.length : Int)
      · rw [if_pos c2] at H
        have c2b0 : decide (x7_1 < (l0.length : Int)) = true := decide_eq_true c2
        clear c2
        by_cases c3 : 0 ≤ x7_1
        · rw [if_pos c3] at H
          have c3b0 : decide (0 ≤ x7_1) = true := decide_eq_true c3
          clear c3
          by_cases c4 : x7_1 < (l0.length : Int)
          · rw [if_pos c4] at H
            have c4b0 : decide (x7_1 < (l0.length : Int)) = true := decide_eq_true c4
            clear c4
            by_cases c5 : (rd l0 x7_1) < (-2147483648)
            · rw [if_pos c5] at H
              have c5b0 : decide ((rd l0 x7_1) < (-2147483648)) = true := decide_eq_true c5
              clear c5
              obtain rfl := Option.some.inj H
              have p103 : 0 ≤ (x7_1 : Int) := of_decide_eq_true (by first | (with_reducible assumption) | assumption)
              have q103 : x7_1 < (l0.length : Int) := of_decide_eq_true (by first | (with_reducible assumption) | assumption)
              obtain ⟨ad103, e103, hx103_0⟩ := Kd.at_int HR0.out x7_1 p103 q103
              cases e103
              replace p103 := eq_true p103
              replace q103 := eq_true q103
              go_wp2
              go_ret
              exact ⟨by first | rfl | (simp; done) | (simp [*]; done), by repeat (first | exact Drawn0.refl _ | apply Drawn0.step)⟩
            · rw [if_neg c5] at H
              have c5b0 : decide ((rd l0 x7_1) < (-2147483648)) = false := decide_eq_false c5
              clear c5
              by_cases c6 : (rd l0 x7_1) > 2147483648
              · rw [if_pos c6] at H
                have c6b0 : decide (2147483648 < (rd l0 x7_1)) = true := decide_eq_true c6
                clear c6
                obtain rfl := Option.some.inj H
                have p103 : 0 ≤ (x7_1 : Int) := of_decide_eq_true (by first | (with_reducible assumption) | assumption)
                have q103 : x7_1 < (l0.length : Int) := of_decide_eq_true (by first | (with_reducible assumption) | assumption)
                obtain ⟨ad103, e103, hx103_0⟩ := Kd.at_int HR0.out x7_1 p103 q103
                cases e103
                replace p103 := eq_true p103
                replace q103 := eq_true q103
                go_wp2
                go_ret
                exact ⟨by first | rfl | (simp; done) | (simp [*]; done), by repeat (first | exact Drawn0.refl _ | apply Drawn0.step)⟩
              · rw [if_neg c6] at H
                have c6b0 : decide (2147483648 < (rd l0 x7_1)) = false := decide_eq_false c6
                clear c6
                have H' := Aside0.mk H
                clear H
                have p103 : 0 ≤ (x7_1 : Int) := of_decide_eq_true (by first | (with_reducible assumption) | assumption)
                have q103 : x7_1 < (l0.length : Int) := of_decide_eq_true (by first | (with_reducible assumption) | assumption)
                obtain ⟨ad103, e103, hx103_0⟩ := Kd.at_int HR0.out x7_1 p103 q103
                cases e103
                replace p103 := eq_true p103
                replace q103 := eq_true q103
                go_wp2
                go_roundg k1
                case measure => have := HK1.out; omega
                case rel => exact ⟨(wrap64 (x7_1 + 1)), (by first | rfl | (simp; done) | (simp [*]; done)), H', ⟨by have := HK1.out; omega⟩, by repeat (first | exact Drawn0.refl _ | apply Drawn0.step)⟩
          · rw [if_neg c4] at H
            exact absurd H (by simp)
        · rw [if_neg c3] at H
          exact absurd H (by simp)
      · rw [if_neg c2] at H
        have c2b0 : decide (x7_1 < (l0.length : Int)) = false := decide_eq_false c2
        clear c2
        obtain rfl := Option.some.inj H
        go_wp2
        go_ret
        exact ⟨by first | rfl | (simp; done) | (simp [*]; done), by repeat (first | exact Drawn0.refl _ | apply Drawn0.step)⟩

/-! ### affine_floor: function 40 -/
def affine_floor.f (a0 : Int) (a1 : Int) : Option (Int) := if a1 = 0 then (none) else (if (Int.tmod a0 a1) = 0 then (some (wrap64 (Int.tdiv a0 a1))) else (if ((decide (a0 < 0)) != (decide (a1 < 0))) = true then (some (wrap64 ((wrap64 (Int.tdiv a0 a1)) - 1))) else (some (wrap64 (Int.tdiv a0 a1)))))
set_option maxHeartbeats 8000000 in
set_option maxRecDepth 100000 in
theorem affine_floor.calls (a0 : Int) (a1 : Int) (r : Int) (w : World) (h : affine_floor.f a0 a1 = some r) :
    Calls Try.prog 40 #[.int .i64 a0, .int .i64 a1] w fun e w' => e = .returned (.int .i64 r) ∧ Drawn0 w w' := by
  have H : (if a1 = 0 then (none) else (if (Int.tmod a0 a1) = 0 then (some (wrap64 (Int.tdiv a0 a1))) else (if ((decide (a0 < 0)) != (decide (a1 < 0))) = true then (some (wrap64 ((wrap64 (Int.tdiv a0 a1)) - 1))) else (some (wrap64 (Int.tdiv a0 a1)))))) = some r := h
  clear h
  by_cases c3 : a1 = 0
  · rw [if_pos c3] at H
    exact absurd H (by simp)
  · rw [if_neg c3] at H
    have c3b0 : (a1 == 0) = false := beq_eq_false_iff_ne.mpr c3
    have c3b1 : (a1 != 0) = true := bne_iff_ne.mpr c3
    by_cases c4 : (Int.tmod a0 a1) = 0
    · rw [if_pos c4] at H
      have c4b0 : ((Int.tmod a0 a1) == 0) = true := beq_iff_eq.mpr c4
      have c4b1 : ((Int.tmod a0 a1) != 0) = false := bne_eq_false_iff_eq.mpr c4
      clear c4
      obtain rfl := Option.some.inj H
      go_enter Try.func40, Try.ntmps40
      go_wp2
      go_ret
      exact ⟨by first | rfl | (simp; done) | (simp [*]; done), by repeat (first | exact Drawn0.refl _ | apply Drawn0.step)⟩
    · rw [if_neg c4] at H
      have c4b0 : ((Int.tmod a0 a1) == 0) = false := beq_eq_false_iff_ne.mpr c4
      have c4b1 : ((Int.tmod a0 a1) != 0) = true := bne_iff_ne.mpr c4
      by_cases c5 : ((decide (a0 < 0)) != (decide (a1 < 0))) = true
      · rw [if_pos c5] at H
        have c5b0 : ((decide (a0 < 0)) != (decide (a1 < 0))) = true := c5
        (try (have c5b1 : decide ((decide (a0 < 0)) = (decide (a1 < 0))) = false := by simpa using c5))
        (try (have c5b2 : ((decide (a0 < 0)) == (decide (a1 < 0))) = false := by simpa using c5))
        (try (have c5b3 : ¬ ((decide (a0 < 0)) = (decide (a1 < 0))) := by simpa using c5))
        clear c5
        obtain rfl := Option.some.inj H
        go_enter Try.func40, Try.ntmps40
        go_wp2
        go_ret
        exact ⟨by first | rfl | (simp; done) | (simp [*]; done), by repeat (first | exact Drawn0.refl _ | apply Drawn0.step)⟩
      · rw [if_neg c5] at H
        have c5b0 : ((decide (a0 < 0)) != (decide (a1 < 0))) = false := by simpa using c5
        (try (have c5b1 : decide ((decide (a0 < 0)) = (decide (a1 < 0))) = true := by simpa using c5))
        (try (have c5b2 : ((decide (a0 < 0)) == (decide (a1 < 0))) = true := by simpa using c5))
        clear c5
        obtain rfl := Option.some.inj H
        go_enter Try.func40, Try.ntmps40
        go_wp2
        go_ret
        exact ⟨by first | rfl | (simp; done) | (simp [*]; done), by repeat (first | exact Drawn0.refl _ | apply Drawn0.step)⟩

/-! ### affine_abs: function 50 -/
def affine_abs.f (a0 : Int) : Option (Int) := if a0 < 0 then (some (wrap64 (-a0))) else (some a0)
set_option maxHeartbeats 8000000 in
set_option maxRecDepth 100000 in
theorem affine_abs.calls (a0 : Int) (r : Int) (w : World) (h : affine_abs.f a0 = some r) :
    Calls Try.prog 50 #[.int .i64 a0] w fun e w' => e = .returned (.int .i64 r) ∧ Drawn0 w w' := by
  have H : (if a0 < 0 then (some (wrap64 (-a0))) else (some a0)) = some r := h
  clear h
  by_cases c2 : a0 < 0
  · rw [if_pos c2] at H
    have c2b0 : decide (a0 < 0) = true := decide_eq_true c2
    clear c2
    obtain rfl := Option.some.inj H
    go_enter Try.func50, Try.ntmps50
    go_wp2
    go_ret
    exact ⟨by first | rfl | (simp; done) | (simp [*]; done), by repeat (first | exact Drawn0.refl _ | apply Drawn0.step)⟩
  · rw [if_neg c2] at H
    have c2b0 : decide (a0 < 0) = false := decide_eq_false c2
    clear c2
    obtain rfl := Option.some.inj H
    go_enter Try.func50, Try.ntmps50
    go_wp2
    go_ret
    exact ⟨by first | rfl | (simp; done) | (simp [*]; done), by repeat (first | exact Drawn0.refl _ | apply Drawn0.step)⟩

/-! ### affine_rest: function 51 -/
def affine_rest.f (a0 : Int) (a1 : Int) : Option (Int) := (affine_floor.f a0 a1).bind fun t104 => (some (wrap64 (a0 - (wrap64 (a1 * t104)))))
set_option maxHeartbeats 8000000 in
set_option maxRecDepth 100000 in
theorem affine_rest.calls (a0 : Int) (a1 : Int) (r : Int) (w : World) (h : affine_rest.f a0 a1 = some r) :
    Calls Try.prog 51 #[.int .i64 a0, .int .i64 a1] w fun e w' => e = .returned (.int .i64 r) ∧ Drawn0 w w' := by
  have H : ((affine_floor.f a0 a1).bind fun t104 => (some (wrap64 (a0 - (wrap64 (a1 * t104)))))) = some r := h
  clear h
  replace H := Option.bind_eq_some_iff.mp H
  obtain ⟨t104, A30, H⟩ := H
  replace H : (some (wrap64 (a0 - (wrap64 (a1 * t104))))) = some r := H
  have A3 := Aside0.mk A30
  clear A30
  obtain rfl := Option.some.inj H
  go_enter Try.func51, Try.ntmps51
  go_wp2_with (first | ((with_reducible refine gate_callee (f := 40) rfl ?_); refine goesL_ (some 9) rfl rfl Try.func40 (by kernel_rfl) rfl #[.int .i64 a0, .int .i64 a1] rfl (by (try simp only [List.map_toArray, List.map_cons, List.map_nil]); first | done | rfl | (simp only [List.length_drop, List.length_take]; rfl)) ?_; (with_reducible refine (affine_floor.calls a0 a1 t104 _ A3.out).mono ?_); rintro e w' ⟨rfl, ⟨nd, rfl⟩⟩; refine ⟨_, rfl, ?_⟩))
  go_ret
  exact ⟨by first | rfl | (simp; done) | (simp [*]; done), by repeat (first | exact Drawn0.refl _ | apply Drawn0.step)⟩

/-! ### affine_sign: function 54 -/
def affine_sign.f (a0 : Int) : Option (Int) := if a0 < 0 then (some (-1)) else (if a0 > 0 then (some 1) else (some 0))
set_option maxHeartbeats 8000000 in
set_option maxRecDepth 100000 in
theorem affine_sign.calls (a0 : Int) (r : Int) (w : World) (h : affine_sign.f a0 = some r) :
    Calls Try.prog 54 #[.int .i64 a0] w fun e w' => e = .returned (.int .i64 r) ∧ Drawn0 w w' := by
  have H : (if a0 < 0 then (some (-1)) else (if a0 > 0 then (some 1) else (some 0))) = some r := h
  clear h
  by_cases c2 : a0 < 0
  · rw [if_pos c2] at H
    have c2b0 : decide (a0 < 0) = true := decide_eq_true c2
    clear c2
    obtain rfl := Option.some.inj H
    go_enter Try.func54, Try.ntmps54
    go_wp2
    go_ret
    exact ⟨by first | rfl | (simp; done) | (simp [*]; done), by repeat (first | exact Drawn0.refl _ | apply Drawn0.step)⟩
  · rw [if_neg c2] at H
    have c2b0 : decide (a0 < 0) = false := decide_eq_false c2
    clear c2
    by_cases c3 : a0 > 0
    · rw [if_pos c3] at H
      have c3b0 : decide (0 < a0) = true := decide_eq_true c3
      clear c3
      obtain rfl := Option.some.inj H
      go_enter Try.func54, Try.ntmps54
      go_wp2
      go_ret
      exact ⟨by first | rfl | (simp; done) | (simp [*]; done), by repeat (first | exact Drawn0.refl _ | apply Drawn0.step)⟩
    · rw [if_neg c3] at H
      have c3b0 : decide (0 < a0) = false := decide_eq_false c3
      clear c3
      obtain rfl := Option.some.inj H
      go_enter Try.func54, Try.ntmps54
      go_wp2
      go_ret
      exact ⟨by first | rfl | (simp; done) | (simp [*]; done), by repeat (first | exact Drawn0.refl _ | apply Drawn0.step)⟩

/-! ### affine_euclid: function 49 -/
def affine_euclid.f : Nat → Int → Int → Option (Int × Int × Int)
  | 0, _, _ => none
  | k + 1, a0, a1 => if a1 = 0 then ((affine_abs.f a0).bind fun t105 => ((affine_sign.f a0).bind fun t106 => (some (t105, t106, 0)))) else ((affine_rest.f a0 a1).bind fun t107 => ((affine_euclid.f k a1 t107).bind fun bt108 => ((affine_floor.f a0 a1).bind fun t111 => (some (bt108.1, bt108.2.2, wrap64 (bt108.2.1 - (wrap64 (t111 * bt108.2.2))))))))
theorem affine_euclid.mono_l : ∀ k, (∀ y0 y1, LeO (affine_euclid.f k y0 y1) (affine_euclid.f (k + 1) y0 y1))
  | 0 => fun _ _ r h => by simp [affine_euclid.f] at h
  | k + 1 => by
    have ih0 := affine_euclid.mono_l k
    · intro y0 y1
      unfold affine_euclid.f
      repeat' first
      | (with_reducible exact ih0 _ _)
      | (with_reducible exact LeO.refl _)
      | (with_reducible exact LeO.none _)
      | (with_reducible refine LeO.ite ?_ ?_)
      | (with_reducible refine LeO.bind ?_ (fun _ => ?_))
      | exact ih0 _ _
      | exact LeO.none _
      | refine LeO.ite ?_ ?_
      | refine LeO.bind ?_ (fun _ => ?_)
theorem affine_euclid.mono : ∀ a0 a1 k, LeO (affine_euclid.f k a0 a1) (affine_euclid.f (k + 1) a0 a1) := by
  intro a0 a1 k
  have ih0 := affine_euclid.mono_l k
  exact ih0 a0 a1
set_option maxHeartbeats 8000000 in
set_option maxRecDepth 100000 in
theorem affine_euclid.calls (k : Nat) : ∀ (a0 : Int) (a1 : Int) (r1 : Int) (r2 : Int) (r3 : Int) (w : World) (h : affine_euclid.f k a0 a1 = some (r1, r2, r3)),
    Calls Try.prog 49 #[.int .i64 a0, .int .i64 a1] w fun e w' => e = .returned (.tuple #[.int .i64 r1, .int .i64 r2, .int .i64 r3]) ∧ Drawn0 w w' := by
  induction k using Nat.strongRecOn with
  | _ k ih =>
  intro a0 a1 r1 r2 r3 w h
  cases k with
  | zero => exact absurd h (by simp [affine_euclid.f])
  | succ k =>
  simp only [affine_euclid.f] at h
  have H : (if a1 = 0 then ((affine_abs.f a0).bind fun t105 => ((affine_sign.f a0).bind fun t106 => (some (t105, t106, 0)))) else ((affine_rest.f a0 a1).bind fun t107 => ((affine_euclid.f k a1 t107).bind fun bt108 => ((affine_floor.f a0 a1).bind fun t111 => (some (bt108.1, bt108.2.2, wrap64 (bt108.2.1 - (wrap64 (t111 * bt108.2.2))))))))) = some (r1, r2, r3) := h
  clear h
  by_cases c3 : a1 = 0
  · rw [if_pos c3] at H
    have c3b0 : (a1 == 0) = true := beq_iff_eq.mpr c3
    have c3b1 : (a1 != 0) = false := bne_eq_false_iff_eq.mpr c3
    clear c3
    replace H := Option.bind_eq_some_iff.mp H
    obtain ⟨t105, A40, H⟩ := H
    replace H : ((affine_sign.f a0).bind fun t106 => (some (t105, t106, 0))) = some (r1, r2, r3) := H
    have A4 := Aside0.mk A40
    clear A40
    replace H := Option.bind_eq_some_iff.mp H
    obtain ⟨t106, A50, H⟩ := H
    replace H : (some (t105, t106, 0)) = some (r1, r2, r3) := H
    have A5 := Aside0.mk A50
    clear A50
    simp only [Option.some.injEq, Prod.mk.injEq] at H
    obtain ⟨rfl, rfl, rfl⟩ := H
    go_enter Try.func49, Try.ntmps49
    go_wp2_with (first | ((with_reducible refine gate_callee (f := 50) rfl ?_); refine goesL_ (some 10) rfl rfl Try.func50 (by kernel_rfl) rfl #[.int .i64 a0] rfl (by (try simp only [List.map_toArray, List.map_cons, List.map_nil]); first | done | rfl | (simp only [List.length_drop, List.length_take]; rfl)) ?_; (with_reducible refine (affine_abs.calls a0 t105 _ A4.out).mono ?_); rintro e w' ⟨rfl, ⟨nd, rfl⟩⟩; refine ⟨_, rfl, ?_⟩) | ((with_reducible refine gate_callee (f := 54) rfl ?_); refine goesL_ (some 12) rfl rfl Try.func54 (by kernel_rfl) rfl #[.int .i64 a0] rfl (by (try simp only [List.map_toArray, List.map_cons, List.map_nil]); first | done | rfl | (simp only [List.length_drop, List.length_take]; rfl)) ?_; (with_reducible refine (affine_sign.calls a0 t106 _ A5.out).mono ?_); rintro e w' ⟨rfl, ⟨nd, rfl⟩⟩; refine ⟨_, rfl, ?_⟩))
    go_ret3
    exact ⟨by first | rfl | (simp; done) | (simp [*]; done), by repeat (first | exact Drawn0.refl _ | apply Drawn0.step)⟩
  · rw [if_neg c3] at H
    have c3b0 : (a1 == 0) = false := beq_eq_false_iff_ne.mpr c3
    have c3b1 : (a1 != 0) = true := bne_iff_ne.mpr c3
    replace H := Option.bind_eq_some_iff.mp H
    obtain ⟨t107, A60, H⟩ := H
    replace H : ((affine_euclid.f k a1 t107).bind fun bt108 => ((affine_floor.f a0 a1).bind fun t111 => (some (bt108.1, bt108.2.2, wrap64 (bt108.2.1 - (wrap64 (t111 * bt108.2.2))))))) = some (r1, r2, r3) := H
    have A6 := Aside0.mk A60
    clear A60
    replace H := Option.bind_eq_some_iff.mp H
    obtain ⟨⟨t108, t109, t110⟩, A70, H⟩ := H
    replace H : ((affine_floor.f a0 a1).bind fun t111 => (some (t108, t110, wrap64 (t109 - (wrap64 (t111 * t110)))))) = some (r1, r2, r3) := H
    have A7 := Aside0.mk A70
    clear A70
    replace H := Option.bind_eq_some_iff.mp H
    obtain ⟨t111, A80, H⟩ := H
    replace H : (some (t108, t110, wrap64 (t109 - (wrap64 (t111 * t110))))) = some (r1, r2, r3) := H
    have A8 := Aside0.mk A80
    clear A80
    simp only [Option.some.injEq, Prod.mk.injEq] at H
    obtain ⟨rfl, rfl, rfl⟩ := H
    go_enter Try.func49, Try.ntmps49
    go_wp2_with (first | ((with_reducible refine gate_callee (f := 51) rfl ?_); refine goesL_ (some 17) rfl rfl Try.func51 (by kernel_rfl) rfl #[.int .i64 a0, .int .i64 a1] rfl (by (try simp only [List.map_toArray, List.map_cons, List.map_nil]); first | done | rfl | (simp only [List.length_drop, List.length_take]; rfl)) ?_; (with_reducible refine (affine_rest.calls a0 a1 t107 _ A6.out).mono ?_); rintro e w' ⟨rfl, ⟨nd, rfl⟩⟩; refine ⟨_, rfl, ?_⟩) | ((with_reducible refine gate_callee (f := 49) rfl ?_); refine goesL_ (some 18) rfl rfl Try.func49 (by kernel_rfl) rfl #[.int .i64 a1, .int .i64 t107] rfl (by (try simp only [List.map_toArray, List.map_cons, List.map_nil]); first | done | rfl | (simp only [List.length_drop, List.length_take]; rfl)) ?_; (with_reducible refine (ih k (by omega) a1 t107 t108 t109 t110 _ A7.out).mono ?_); rintro e w' ⟨rfl, ⟨nd, rfl⟩⟩; refine ⟨_, rfl, ?_⟩) | ((with_reducible refine gate_callee (f := 40) rfl ?_); refine goesL_ (some 27) rfl rfl Try.func40 (by kernel_rfl) rfl #[.int .i64 a0, .int .i64 a1] rfl (by (try simp only [List.map_toArray, List.map_cons, List.map_nil]); first | done | rfl | (simp only [List.length_drop, List.length_take]; rfl)) ?_; (with_reducible refine (affine_floor.calls a0 a1 t111 _ A8.out).mono ?_); rintro e w' ⟨rfl, ⟨nd, rfl⟩⟩; refine ⟨_, rfl, ?_⟩))
    go_ret3
    exact ⟨by first | rfl | (simp; done) | (simp [*]; done), by repeat (first | exact Drawn0.refl _ | apply Drawn0.step)⟩

/-! ### affine_gcd: function 45 -/
def affine_gcd.f (k : Nat) (a0 : Int) (a1 : Int) : Option (Int × Int × Int) := (affine_euclid.f k a0 a1).bind fun bt112 => (if a1 = 0 then (some (bt112.1, bt112.2.1, bt112.2.2)) else ((affine_abs.f a1).bind fun t115 => (if bt112.1 = 0 then (none) else ((affine_rest.f bt112.2.1 (wrap64 (Int.tdiv t115 bt112.1))).bind fun t116 => (some (bt112.1, t116, wrap64 (Int.tdiv (wrap64 (bt112.1 - (wrap64 (a0 * t116)))) a1)))))))
theorem affine_gcd.mono : ∀ a0 a1 k, LeO (affine_gcd.f k a0 a1) (affine_gcd.f (k + 1) a0 a1) := by
  intro a0 a1 k
  unfold affine_gcd.f
  repeat' first
      | (with_reducible exact affine_euclid.mono _ _ _)
      | (with_reducible exact LeO.refl _)
      | (with_reducible exact LeO.none _)
      | (with_reducible refine LeO.ite ?_ ?_)
      | (with_reducible refine LeO.bind ?_ (fun _ => ?_))
      | exact affine_euclid.mono _ _ _
      | exact LeO.none _
      | refine LeO.ite ?_ ?_
      | refine LeO.bind ?_ (fun _ => ?_)
set_option maxHeartbeats 8000000 in
set_option maxRecDepth 100000 in
theorem affine_gcd.calls (k : Nat) (a0 : Int) (a1 : Int) (r1 : Int) (r2 : Int) (r3 : Int) (w : World) (h : affine_gcd.f k a0 a1 = some (r1, r2, r3)) :
    Calls Try.prog 45 #[.int .i64 a0, .int .i64 a1] w fun e w' => e = .returned (.tuple #[.int .i64 r1, .int .i64 r2, .int .i64 r3]) ∧ Drawn0 w w' := by
  have H : ((affine_euclid.f k a0 a1).bind fun bt112 => (if a1 = 0 then (some (bt112.1, bt112.2.1, bt112.2.2)) else ((affine_abs.f a1).bind fun t115 => (if bt112.1 = 0 then (none) else ((affine_rest.f bt112.2.1 (wrap64 (Int.tdiv t115 bt112.1))).bind fun t116 => (some (bt112.1, t116, wrap64 (Int.tdiv (wrap64 (bt112.1 - (wrap64 (a0 * t116)))) a1)))))))) = some (r1, r2, r3) := h
  clear h
  replace H := Option.bind_eq_some_iff.mp H
  obtain ⟨⟨t112, t113, t114⟩, A30, H⟩ := H
  replace H : (if a1 = 0 then (some (t112, t113, t114)) else ((affine_abs.f a1).bind fun t115 => (if t112 = 0 then (none) else ((affine_rest.f t113 (wrap64 (Int.tdiv t115 t112))).bind fun t116 => (some (t112, t116, wrap64 (Int.tdiv (wrap64 (t112 - (wrap64 (a0 * t116)))) a1))))))) = some (r1, r2, r3) := H
  have A3 := Aside0.mk A30
  clear A30
  by_cases c4 : a1 = 0
  · rw [if_pos c4] at H
    have c4b0 : (a1 == 0) = true := beq_iff_eq.mpr c4
    have c4b1 : (a1 != 0) = false := bne_eq_false_iff_eq.mpr c4
    clear c4
    simp only [Option.some.injEq, Prod.mk.injEq] at H
    obtain ⟨rfl, rfl, rfl⟩ := H
    go_enter Try.func45, Try.ntmps45
    go_wp2_with (first | (go_at_call 49; (with_reducible refine (affine_euclid.calls k a0 a1 t112 t113 t114 _ A3.out).mono ?_); rintro e w' ⟨rfl, ⟨nd, rfl⟩⟩; (try first | exact ⟨rfl, _, World.drewN_drewN _ _ _⟩ | exact ⟨rfl, _, Eq.trans (World.drewN_drewN _ _ _) (congrArg (World.drewN _) (Nat.add_assoc _ _ _))⟩)))
    repeat (go_quiet (first | (go_at_call 49; (with_reducible refine (affine_euclid.calls k a0 a1 t112 t113 t114 _ A3.out).mono ?_); rintro e w' ⟨rfl, ⟨nd, rfl⟩⟩; (try first | exact ⟨rfl, _, World.drewN_drewN _ _ _⟩ | exact ⟨rfl, _, Eq.trans (World.drewN_drewN _ _ _) (congrArg (World.drewN _) (Nat.add_assoc _ _ _))⟩))); try go_wp2_with (first | (go_at_call 49; (with_reducible refine (affine_euclid.calls k a0 a1 t112 t113 t114 _ A3.out).mono ?_); rintro e w' ⟨rfl, ⟨nd, rfl⟩⟩; (try first | exact ⟨rfl, _, World.drewN_drewN _ _ _⟩ | exact ⟨rfl, _, Eq.trans (World.drewN_drewN _ _ _) (congrArg (World.drewN _) (Nat.add_assoc _ _ _))⟩))))
    go_ret3
    exact ⟨by first | rfl | (simp; done) | (simp [*]; done), by repeat (first | exact Drawn0.refl _ | apply Drawn0.step)⟩
  · rw [if_neg c4] at H
    have c4b0 : (a1 == 0) = false := beq_eq_false_iff_ne.mpr c4
    have c4b1 : (a1 != 0) = true := bne_iff_ne.mpr c4
    replace H := Option.bind_eq_some_iff.mp H
    obtain ⟨t115, A50, H⟩ := H
    replace H : (if t112 = 0 then (none) else ((affine_rest.f t113 (wrap64 (Int.tdiv t115 t112))).bind fun t116 => (some (t112, t116, wrap64 (Int.tdiv (wrap64 (t112 - (wrap64 (a0 * t116)))) a1))))) = some (r1, r2, r3) := H
    have A5 := Aside0.mk A50
    clear A50
    by_cases c6 : t112 = 0
    · rw [if_pos c6] at H
      exact absurd H (by simp)
    · rw [if_neg c6] at H
      have c6b0 : (t112 == 0) = false := beq_eq_false_iff_ne.mpr c6
      have c6b1 : (t112 != 0) = true := bne_iff_ne.mpr c6
      replace H := Option.bind_eq_some_iff.mp H
      obtain ⟨t116, A70, H⟩ := H
      replace H : (some (t112, t116, wrap64 (Int.tdiv (wrap64 (t112 - (wrap64 (a0 * t116)))) a1))) = some (r1, r2, r3) := H
      have A7 := Aside0.mk A70
      clear A70
      simp only [Option.some.injEq, Prod.mk.injEq] at H
      obtain ⟨rfl, rfl, rfl⟩ := H
      go_enter Try.func45, Try.ntmps45
      go_wp2_with (first | (go_at_call 49; (with_reducible refine (affine_euclid.calls k a0 a1 t112 t113 t114 _ A3.out).mono ?_); rintro e w' ⟨rfl, ⟨nd, rfl⟩⟩; (try first | exact ⟨rfl, _, World.drewN_drewN _ _ _⟩ | exact ⟨rfl, _, Eq.trans (World.drewN_drewN _ _ _) (congrArg (World.drewN _) (Nat.add_assoc _ _ _))⟩)) | (go_at_call 50; (with_reducible refine (affine_abs.calls a1 t115 _ A5.out).mono ?_); rintro e w' ⟨rfl, ⟨nd, rfl⟩⟩; (try first | exact ⟨rfl, _, World.drewN_drewN _ _ _⟩ | exact ⟨rfl, _, Eq.trans (World.drewN_drewN _ _ _) (congrArg (World.drewN _) (Nat.add_assoc _ _ _))⟩)) | (go_at_call 51; (with_reducible refine (affine_rest.calls t113 (wrap64 (Int.tdiv t115 t112)) t116 _ A7.out).mono ?_); rintro e w' ⟨rfl, ⟨nd, rfl⟩⟩; (try first | exact ⟨rfl, _, World.drewN_drewN _ _ _⟩ | exact ⟨rfl, _, Eq.trans (World.drewN_drewN _ _ _) (congrArg (World.drewN _) (Nat.add_assoc _ _ _))⟩)))
      repeat (go_quiet (first | (go_at_call 49; (with_reducible refine (affine_euclid.calls k a0 a1 t112 t113 t114 _ A3.out).mono ?_); rintro e w' ⟨rfl, ⟨nd, rfl⟩⟩; (try first | exact ⟨rfl, _, World.drewN_drewN _ _ _⟩ | exact ⟨rfl, _, Eq.trans (World.drewN_drewN _ _ _) (congrArg (World.drewN _) (Nat.add_assoc _ _ _))⟩)) | (go_at_call 50; (with_reducible refine (affine_abs.calls a1 t115 _ A5.out).mono ?_); rintro e w' ⟨rfl, ⟨nd, rfl⟩⟩; (try first | exact ⟨rfl, _, World.drewN_drewN _ _ _⟩ | exact ⟨rfl, _, Eq.trans (World.drewN_drewN _ _ _) (congrArg (World.drewN _) (Nat.add_assoc _ _ _))⟩)) | (go_at_call 51; (with_reducible refine (affine_rest.calls t113 (wrap64 (Int.tdiv t115 t112)) t116 _ A7.out).mono ?_); rintro e w' ⟨rfl, ⟨nd, rfl⟩⟩; (try first | exact ⟨rfl, _, World.drewN_drewN _ _ _⟩ | exact ⟨rfl, _, Eq.trans (World.drewN_drewN _ _ _) (congrArg (World.drewN _) (Nat.add_assoc _ _ _))⟩))); try go_wp2_with (first | (go_at_call 49; (with_reducible refine (affine_euclid.calls k a0 a1 t112 t113 t114 _ A3.out).mono ?_); rintro e w' ⟨rfl, ⟨nd, rfl⟩⟩; (try first | exact ⟨rfl, _, World.drewN_drewN _ _ _⟩ | exact ⟨rfl, _, Eq.trans (World.drewN_drewN _ _ _) (congrArg (World.drewN _) (Nat.add_assoc _ _ _))⟩)) | (go_at_call 50; (with_reducible refine (affine_abs.calls a1 t115 _ A5.out).mono ?_); rintro e w' ⟨rfl, ⟨nd, rfl⟩⟩; (try first | exact ⟨rfl, _, World.drewN_drewN _ _ _⟩ | exact ⟨rfl, _, Eq.trans (World.drewN_drewN _ _ _) (congrArg (World.drewN _) (Nat.add_assoc _ _ _))⟩)) | (go_at_call 51; (with_reducible refine (affine_rest.calls t113 (wrap64 (Int.tdiv t115 t112)) t116 _ A7.out).mono ?_); rintro e w' ⟨rfl, ⟨nd, rfl⟩⟩; (try first | exact ⟨rfl, _, World.drewN_drewN _ _ _⟩ | exact ⟨rfl, _, Eq.trans (World.drewN_drewN _ _ _) (congrArg (World.drewN _) (Nat.add_assoc _ _ _))⟩))))
      go_ret3
      exact ⟨by first | rfl | (simp; done) | (simp [*]; done), by repeat (first | exact Drawn0.refl _ | apply Drawn0.step)⟩

/-! ### affine_whole: function 52 -/
def affine_whole.f (a0 : Int) (a1 : Int) (a2 : Int) (a3 : Int) : Option (Int) := if a2 = 0 then (none) else (some (wrap64 ((wrap64 (Int.tdiv (wrap64 (a3 - (wrap64 ((Int.tmod a0 a2) * a1)))) a2)) - (wrap64 ((wrap64 (Int.tdiv a0 a2)) * a1)))))
set_option maxHeartbeats 8000000 in
set_option maxRecDepth 100000 in
theorem affine_whole.calls (a0 : Int) (a1 : Int) (a2 : Int) (a3 : Int) (r : Int) (w : World) (h : affine_whole.f a0 a1 a2 a3 = some r) :
    Calls Try.prog 52 #[.int .i64 a0, .int .i64 a1, .int .i64 a2, .int .i64 a3] w fun e w' => e = .returned (.int .i64 r) ∧ Drawn0 w w' := by
  have H : (if a2 = 0 then (none) else (some (wrap64 ((wrap64 (Int.tdiv (wrap64 (a3 - (wrap64 ((Int.tmod a0 a2) * a1)))) a2)) - (wrap64 ((wrap64 (Int.tdiv a0 a2)) * a1)))))) = some r := h
  clear h
  by_cases c5 : a2 = 0
  · rw [if_pos c5] at H
    exact absurd H (by simp)
  · rw [if_neg c5] at H
    have c5b0 : (a2 == 0) = false := beq_eq_false_iff_ne.mpr c5
    have c5b1 : (a2 != 0) = true := bne_iff_ne.mpr c5
    obtain rfl := Option.some.inj H
    go_enter Try.func52, Try.ntmps52
    go_wp2
    repeat (go_quiet (fail); try go_wp2)
    go_ret
    exact ⟨by first | rfl | (simp; done) | (simp [*]; done), by repeat (first | exact Drawn0.refl _ | apply Drawn0.step)⟩

/-! ### affine_solve: function 34 -/
def affine_solve.j0 : Nat → Int → Int → Int → Bool → Option (Int × Int × Int × Int × Bool)
  | 0, _, _, _, _ => none
  | k + 1, x0, x1, x2, x21 => if x21 = true then (some (0, 0, 0, 0, (x2 == 0))) else ((affine_euclid.f k x0 x1).bind fun bt118 => (if bt118.1 = 0 then (none) else (if (Int.tmod x2 bt118.1) = 0 then (if (wrap64 (Int.tdiv x1 bt118.1)) = 0 then (if (wrap64 (Int.tdiv x0 bt118.1)) = 0 then (none) else (some (wrap64 (Int.tdiv (wrap64 (Int.tdiv x2 bt118.1)) (wrap64 (Int.tdiv x0 bt118.1))), 0, 0, 1, true))) else ((affine_abs.f (wrap64 (Int.tdiv x1 bt118.1))).bind fun t121 => ((affine_rest.f (wrap64 (Int.tdiv x0 bt118.1)) t121).bind fun t122 => ((affine_gcd.f k t122 t121).bind fun bt123 => ((affine_rest.f bt123.2.1 t121).bind fun t126 => ((affine_rest.f (wrap64 (Int.tdiv x2 bt118.1)) t121).bind fun t127 => ((affine_rest.f (wrap64 (t126 * t127)) t121).bind fun t128 => (if (wrap64 (Int.tdiv x1 bt118.1)) < 0 then ((affine_whole.f (wrap64 (Int.tdiv x0 bt118.1)) t128 (wrap64 (Int.tdiv x1 bt118.1)) (wrap64 (Int.tdiv x2 bt118.1))).bind fun t130 => (some (t128, wrap64 (-(wrap64 (Int.tdiv x1 bt118.1))), t130, wrap64 (Int.tdiv x0 bt118.1), true))) else ((affine_whole.f (wrap64 (Int.tdiv x0 bt118.1)) t128 (wrap64 (Int.tdiv x1 bt118.1)) (wrap64 (Int.tdiv x2 bt118.1))).bind fun t131 => (some (t128, wrap64 (Int.tdiv x1 bt118.1), t131, wrap64 (-(wrap64 (Int.tdiv x0 bt118.1))), true))))))))))) else (some (0, 0, 0, 0, false)))))
def affine_solve.f (k : Nat) (a0 : Int) (a1 : Int) (a2 : Int) : Option (Int × Int × Int × Int × Bool) := if a0 = 0 then (affine_solve.j0 k a0 a1 a2 (a1 == 0)) else (affine_solve.j0 k a0 a1 a2 false)

/-! ### affine_Solve: function 14 -/
def affine_Solve.f (k : Nat) (a0 : Int) (a1 : Int) (a2 : Int) : Option (Int × Int × Int × Int × Bool × Int) := (affine_small.f k (([a0, a1, a2] : List Int))).bind fun t136 => (if t136 = true then ((affine_solve.f k a0 a1 a2).bind fun bt137 => (some (bt137.1, bt137.2.1, bt137.2.2.1, bt137.2.2.2.1, bt137.2.2.2.2, 0))) else (some (0, 0, 0, 0, false, 3)))

/-! ### affine_lines: function 36 -/
def affine_lines.f (k : Nat) (a0_0 : Int) (a0_1 : Int) (a1_0 : Int) (a1_1 : Int) (l2 : List Int) : Option (Int) := (affine_small.f k (([a0_0, a0_1, a1_0, a1_1] : List Int))).bind fun t148 => (if t148 = true then ((affine_small.f k l2).bind fun t149 => (if t149 = true then (some 0) else (some 3))) else (some 3))
theorem affine_lines.mono : ∀ a0 a1 a2 a3 a4 k, LeO (affine_lines.f k a0 a1 a2 a3 a4) (affine_lines.f (k + 1) a0 a1 a2 a3 a4) := by
  intro a0 a1 a2 a3 a4 k
  unfold affine_lines.f
  repeat' first
      | (with_reducible exact affine_small.mono _ _)
      | (with_reducible exact LeO.refl _)
      | (with_reducible exact LeO.none _)
      | (with_reducible refine LeO.ite ?_ ?_)
      | (with_reducible refine LeO.bind ?_ (fun _ => ?_))
      | exact affine_small.mono _ _
      | exact LeO.none _
      | refine LeO.ite ?_ ?_
      | refine LeO.bind ?_ (fun _ => ?_)
set_option maxHeartbeats 8000000 in
set_option maxRecDepth 100000 in
theorem affine_lines.calls (k : Nat) (a0_0 : Int) (a0_1 : Int) (a1_0 : Int) (a1_1 : Int) (A2 : Option Addr) (c2 : Nat) (l2 : List Int) (r : Int) (w : World) (hr2 : Kd.C (Kd.int .i64) w A2 l2.length l2) (hc2 : l2.length ≤ c2) (h : affine_lines.f k a0_0 a0_1 a1_0 a1_1 l2 = some r) :
    Calls Try.prog 36 #[.agg #[.int .i64 a0_0, .int .i64 a0_1], .agg #[.int .i64 a1_0, .int .i64 a1_1], .slice A2 l2.length c2] w fun e w' => e = .returned (.int .i64 r) ∧ Below w.heap.size w w' := by
  have hu33 := Try.underlying33
  have HR2 := Aside0.mk hr2
  have HC2 := Aside0.mk hc2
  clear hr2 hc2
  have HB := Aside0.mk (Below.refl w.heap.size w)
  have H : ((affine_small.f k (([a0_0, a0_1, a1_0, a1_1] : List Int))).bind fun t148 => (if t148 = true then ((affine_small.f k l2).bind fun t149 => (if t149 = true then (some 0) else (some 3))) else (some 3))) = some r := h
  clear h
  obtain ⟨y145, hy145⟩ : ∃ y_ : List Int, y_ = (([a0_0, a0_1, a1_0, a1_1] : List Int)) := ⟨_, rfl⟩
  replace H : ((affine_small.f k y145).bind fun t148 => (if t148 = true then ((affine_small.f k l2).bind fun t149 => (if t149 = true then (some 0) else (some 3))) else (some 3))) = some r := by first | (rw [hy145]; with_reducible exact H) | (have H2_ := (Option.bind_some _ _).symm.trans H; rw [hy145]; with_reducible exact H2_) | (have H2_ := (Option.bind_some _ _).symm.trans H; with_reducible exact H2_) | with_reducible exact H | (rw [hy145]; exact H) | exact H
  have Ny145 := Aside0.mk hy145
  clear hy145
  replace H := Option.bind_eq_some_iff.mp H
  obtain ⟨t148, A40, H⟩ := H
  replace H : (if t148 = true then ((affine_small.f k l2).bind fun t149 => (if t149 = true then (some 0) else (some 3))) else (some 3)) = some r := H
  have A4 := Aside0.mk A40
  clear A40
  by_cases c5 : t148 = true
  · subst c5
    have H1 : ((affine_small.f k l2).bind fun t149 => (if t149 = true then (some 0) else (some 3))) = some r := by rw [if_pos rfl] at H; exact H
    clear H
    have H := H1
    clear H1
    replace H := Option.bind_eq_some_iff.mp H
    obtain ⟨t149, A60, H⟩ := H
    replace H : (if t149 = true then (some 0) else (some 3)) = some r := H
    have A6 := Aside0.mk A60
    clear A60
    by_cases c7 : t149 = true
    · subst c7
      have H1 : (some 0) = some r := by rw [if_pos rfl] at H; exact H
      clear H
      have H := H1
      clear H1
      obtain rfl := Option.some.inj H
      go_enter Try.func36, Try.ntmps36
      go_wp2_with (first | ((with_reducible refine gate_dst (N := 3) rfl ?_); refine box_event ?hg (N := 3) ?hd (cs := #[.int .i64 a0_0, .int .i64 a0_1]) (t := 33) ?hr ?_; (case hd => rfl); (case hg => rfl); (case hr => first | (go_simp; done) | (go_simp; rfl)); intro gb143 hg w8 hbox hb; have n0_ := Aside0.mk (below_step (by repeat (first | (with_reducible first | exact HB.out | apply below_alloc | apply pw_below_drewN | apply below_drew1) | exact HB.out)) hb); have n1_ := Aside0.mk (hbox); have n2_ := Aside0.mk ((by rw [hg]; exact (below_size (by repeat (first | (with_reducible first | exact HB.out | apply below_alloc | apply pw_below_drewN | apply below_drew1) | exact HB.out))) : w.heap.size ≤ gb143)); have n3_ := Aside0.mk ((by rw [hg]; exact (below_size (by repeat (first | (with_reducible first | exact HB.out | apply below_alloc | apply pw_below_drewN | apply below_drew1) | exact HB.out))) : w.heap.size ≤ gb143)); clear HB; have HB := n0_; have BK143 := n1_; have GW143 := n2_; have GE143 := n3_; clear n0_ n1_ n2_ n3_; clear hb hbox hg) | ((with_reducible refine gate_dst (N := 4) rfl ?_); refine box_event ?hg (N := 4) ?hd (cs := #[.int .i64 a1_0, .int .i64 a1_1]) (t := 33) ?hr ?_; (case hd => rfl); (case hg => rfl); (case hr => first | (go_simp; done) | (go_simp; rfl)); intro gb144 hg w9 hbox hb; have n0_ := Aside0.mk (blk_below (g := gb143) (o := .cells #[.int .i64 a0_0, .int .i64 a0_1] 33 (0, 0)) (by (with_reducible repeat (first | refine blk_drewN ?_ _ | refine blk_drew ?_ | refine blk_alloc ?_ _)); exact BK143.out) hb); have n1_ := Aside0.mk (below_step (by repeat (first | (with_reducible first | exact HB.out | apply below_alloc | apply pw_below_drewN | apply below_drew1 | refine below_set ?_ GE143.out) | exact HB.out)) hb); have n2_ := Aside0.mk (hbox); have n3_ := Aside0.mk ((by rw [hg]; exact (below_size (by repeat (first | (with_reducible first | exact HB.out | apply below_alloc | apply pw_below_drewN | apply below_drew1 | refine below_set ?_ GE143.out) | exact HB.out))) : w.heap.size ≤ gb144)); have n4_ := Aside0.mk ((by rw [hg]; exact (below_size (by repeat (first | (with_reducible first | exact HB.out | apply below_alloc | apply pw_below_drewN | apply below_drew1 | refine below_set ?_ GE143.out) | exact HB.out))) : w.heap.size ≤ gb144)); have n5_ := Aside0.mk ((by rw [hg]; exact Nat.ne_of_lt (blk_lt (g := gb143) (o := .cells #[.int .i64 a0_0, .int .i64 a0_1] 33 (0, 0)) (by (with_reducible repeat (first | refine blk_drewN ?_ _ | refine blk_drew ?_ | refine blk_alloc ?_ _)); exact BK143.out)) : gb143 ≠ gb144)); have n6_ := Aside0.mk ((by rw [hg]; exact Nat.ne_of_gt (blk_lt (g := gb143) (o := .cells #[.int .i64 a0_0, .int .i64 a0_1] 33 (0, 0)) (by (with_reducible repeat (first | refine blk_drewN ?_ _ | refine blk_drew ?_ | refine blk_alloc ?_ _)); exact BK143.out)) : gb144 ≠ gb143)); clear BK143; clear HB; have BK143 := n0_; have HB := n1_; have BK144 := n2_; have GW144 := n3_; have GE144 := n4_; have NB143_144 := n5_; have NB144_143 := n6_; clear n0_ n1_ n2_ n3_ n4_ n5_ n6_; clear hb hbox hg; have hnb10 := NB143_144.out; have hnc10 := NB144_143.out; have hcz11_0 : w9.cell? ⟨gb143, 0, none⟩ = some (.int .i64 a0_0) := (blk_cell BK143.out 0).trans rfl; have hcz11_1 : w9.cell? ⟨gb143, 1, none⟩ = some (.int .i64 a0_1) := (blk_cell BK143.out 1).trans rfl; have hfz11_0 := blk_frozen BK143.out 0; have hfz11_1 := blk_frozen BK143.out 1; have hcz12_0 : w9.cell? ⟨gb144, 0, none⟩ = some (.int .i64 a1_0) := (blk_cell BK144.out 0).trans rfl; have hcz12_1 : w9.cell? ⟨gb144, 1, none⟩ = some (.int .i64 a1_1) := (blk_cell BK144.out 1).trans rfl; have hfz12_0 := blk_frozen BK144.out 0; have hfz12_1 := blk_frozen BK144.out 1) | ((with_reducible refine gate_dst (N := 15) rfl ?_); refine Kd.R_lit (Kd.int .i64) _ 2 ?hg (N := 15) ?hd (xs := ([a0_0, a0_1, a1_0, a1_1] : List Int)) (inner := [.int .i64 a0_0, .int .i64 a0_1, .int .i64 a1_0, .int .i64 a1_1]) (ok := fun _ => True) (okp := fun _ => True) ?hr ?hp (fun _ hk => hk) trivial (Below.refl _ _) (Nat.le_refl _) (by simp) ?_; (case hd => rfl); (case hg => rfl); (case hr => first | (go_simp; done) | (go_simp; rfl)); (case hp => exact (Reps.one (show Kd.M (Kd.int .i64) _ _ _ a0_0 [.int .i64 a0_0] from rfl) (Reps.one (show Kd.M (Kd.int .i64) _ _ _ a0_1 [.int .i64 a0_1] from rfl) (Reps.one (show Kd.M (Kd.int .i64) _ _ _ a1_0 [.int .i64 a1_0] from rfl) (Reps.one (show Kd.M (Kd.int .i64) _ _ _ a1_1 [.int .i64 a1_1] from rfl) (Reps.none _ _)))))); intro v146 w13 ho14 hb hg_ hnew_; clear hg_ hnew_; (first | rw [← Ny145.out] at ho14 | (simp only [Int.reduceToNat] at ho14; rw [← Ny145.out] at ho14)); have n0_ := Aside0.mk (Kd.R_lower ho14 (below_size (by repeat (first | (with_reducible first | exact HB.out | apply below_alloc | apply pw_below_drewN | apply below_drew1 | refine below_set ?_ GE143.out | refine below_set ?_ GE144.out) | exact HB.out)))); have n1_ := Aside0.mk (blk_below (g := gb143) (o := .cells #[.int .i64 a0_0, .int .i64 a0_1] 33 (0, 0)) (by (with_reducible repeat (first | refine blk_drewN ?_ _ | refine blk_drew ?_ | refine blk_alloc ?_ _)); exact BK143.out) hb); have n2_ := Aside0.mk (blk_below (g := gb144) (o := .cells #[.int .i64 a1_0, .int .i64 a1_1] 33 (0, 0)) (by (with_reducible repeat (first | refine blk_drewN ?_ _ | refine blk_drew ?_ | refine blk_alloc ?_ _)); exact BK144.out) hb); have n3_ := Aside0.mk (below_step (by repeat (first | (with_reducible first | exact HB.out | apply below_alloc | apply pw_below_drewN | apply below_drew1 | refine below_set ?_ GE143.out | refine below_set ?_ GE144.out) | exact HB.out)) hb); clear BK143; clear BK144; clear HB; have HO147 := n0_; have BK143 := n1_; have BK144 := n2_; have HB := n3_; clear n0_ n1_ n2_ n3_; clear hb ho14; obtain ⟨Ao15, co15, eo15⟩ := Kd.R_slice HO147.out; subst eo15) | ((with_reducible refine gate_callee (f := 33) rfl ?_); refine goesL_ (some 16) rfl rfl Try.func33 (by kernel_rfl) rfl #[.slice Ao15 y145.length co15] rfl (by (try simp only [List.map_toArray, List.map_cons, List.map_nil]); first | done | rfl | (simp only [List.length_drop, List.length_take]; rfl)) ?_; (with_reducible refine (affine_small.calls k _ _ y145 true _ ?side1 ?side2 A4.out).mono ?_); (case side1 => repeat (first | exact (Kd.R_reads' HO147.out).2.2 | (with_reducible refine Kd.C_alloc ?_ _) | (with_reducible refine Kd.C_drewN ?_ _) | (with_reducible refine Kd.C_drew ?_))); (case side2 => exact (Kd.R_reads' HO147.out).2.1); rintro e w' ⟨rfl, ⟨nd, rfl⟩⟩; refine ⟨_, rfl, ?_⟩) | (go_at_call 33; (with_reducible refine (affine_small.calls k _ _ l2 true _ ?side1 ?side2 A6.out).mono ?_); (case side1 => repeat (first | exact (Kd.C_below HR2.out (by repeat (first | (with_reducible first | exact HB.out | apply below_alloc | apply pw_below_drewN | apply below_drew1 | refine below_set ?_ GE143.out | refine below_set ?_ GE144.out) | exact HB.out))) | (with_reducible refine Kd.C_alloc ?_ _) | (with_reducible refine Kd.C_drewN ?_ _) | (with_reducible refine Kd.C_drew ?_))); (case side2 => exact HC2.out); rintro e w' ⟨rfl, ⟨nd, rfl⟩⟩))
      go_ret
      exact ⟨by first | rfl | (simp [errW_none, errW_some] <;> rfl) | (simp [*, errW_none, errW_some] <;> rfl), by repeat (first | (with_reducible first | exact HB.out | apply below_alloc | apply pw_below_drewN | apply below_drew1 | refine below_set ?_ GE143.out | refine below_set ?_ GE144.out) | exact HB.out)⟩
    · replace c7 := Bool.eq_false_iff.mpr c7
      subst c7
      have H1 : (some 3) = some r := by rw [if_neg (show ¬ (false = true) by decide)] at H; exact H
      clear H
      have H := H1
      clear H1
      obtain rfl := Option.some.inj H
      go_enter Try.func36, Try.ntmps36
      go_wp2_with (first | ((with_reducible refine gate_dst (N := 3) rfl ?_); refine box_event ?hg (N := 3) ?hd (cs := #[.int .i64 a0_0, .int .i64 a0_1]) (t := 33) ?hr ?_; (case hd => rfl); (case hg => rfl); (case hr => first | (go_simp; done) | (go_simp; rfl)); intro gb143 hg w16 hbox hb; have n0_ := Aside0.mk (below_step (by repeat (first | (with_reducible first | exact HB.out | apply below_alloc | apply pw_below_drewN | apply below_drew1) | exact HB.out)) hb); have n1_ := Aside0.mk (hbox); have n2_ := Aside0.mk ((by rw [hg]; exact (below_size (by repeat (first | (with_reducible first | exact HB.out | apply below_alloc | apply pw_below_drewN | apply below_drew1) | exact HB.out))) : w.heap.size ≤ gb143)); have n3_ := Aside0.mk ((by rw [hg]; exact (below_size (by repeat (first | (with_reducible first | exact HB.out | apply below_alloc | apply pw_below_drewN | apply below_drew1) | exact HB.out))) : w.heap.size ≤ gb143)); clear HB; have HB := n0_; have BK143 := n1_; have GW143 := n2_; have GE143 := n3_; clear n0_ n1_ n2_ n3_; clear hb hbox hg) | ((with_reducible refine gate_dst (N := 4) rfl ?_); refine box_event ?hg (N := 4) ?hd (cs := #[.int .i64 a1_0, .int .i64 a1_1]) (t := 33) ?hr ?_; (case hd => rfl); (case hg => rfl); (case hr => first | (go_simp; done) | (go_simp; rfl)); intro gb144 hg w17 hbox hb; have n0_ := Aside0.mk (blk_below (g := gb143) (o := .cells #[.int .i64 a0_0, .int .i64 a0_1] 33 (0, 0)) (by (with_reducible repeat (first | refine blk_drewN ?_ _ | refine blk_drew ?_ | refine blk_alloc ?_ _)); exact BK143.out) hb); have n1_ := Aside0.mk (below_step (by repeat (first | (with_reducible first | exact HB.out | apply below_alloc | apply pw_below_drewN | apply below_drew1 | refine below_set ?_ GE143.out) | exact HB.out)) hb); have n2_ := Aside0.mk (hbox); have n3_ := Aside0.mk ((by rw [hg]; exact (below_size (by repeat (first | (with_reducible first | exact HB.out | apply below_alloc | apply pw_below_drewN | apply below_drew1 | refine below_set ?_ GE143.out) | exact HB.out))) : w.heap.size ≤ gb144)); have n4_ := Aside0.mk ((by rw [hg]; exact (below_size (by repeat (first | (with_reducible first | exact HB.out | apply below_alloc | apply pw_below_drewN | apply below_drew1 | refine below_set ?_ GE143.out) | exact HB.out))) : w.heap.size ≤ gb144)); have n5_ := Aside0.mk ((by rw [hg]; exact Nat.ne_of_lt (blk_lt (g := gb143) (o := .cells #[.int .i64 a0_0, .int .i64 a0_1] 33 (0, 0)) (by (with_reducible repeat (first | refine blk_drewN ?_ _ | refine blk_drew ?_ | refine blk_alloc ?_ _)); exact BK143.out)) : gb143 ≠ gb144)); have n6_ := Aside0.mk ((by rw [hg]; exact Nat.ne_of_gt (blk_lt (g := gb143) (o := .cells #[.int .i64 a0_0, .int .i64 a0_1] 33 (0, 0)) (by (with_reducible repeat (first | refine blk_drewN ?_ _ | refine blk_drew ?_ | refine blk_alloc ?_ _)); exact BK143.out)) : gb144 ≠ gb143)); clear BK143; clear HB; have BK143 := n0_; have HB := n1_; have BK144 := n2_; have GW144 := n3_; have GE144 := n4_; have NB143_144 := n5_; have NB144_143 := n6_; clear n0_ n1_ n2_ n3_ n4_ n5_ n6_; clear hb hbox hg; have hnb18 := NB143_144.out; have hnc18 := NB144_143.out; have hcz19_0 : w17.cell? ⟨gb143, 0, none⟩ = some (.int .i64 a0_0) := (blk_cell BK143.out 0).trans rfl; have hcz19_1 : w17.cell? ⟨gb143, 1, none⟩ = some (.int .i64 a0_1) := (blk_cell BK143.out 1).trans rfl; have hfz19_0 := blk_frozen BK143.out 0; have hfz19_1 := blk_frozen BK143.out 1; have hcz20_0 : w17.cell? ⟨gb144, 0, none⟩ = some (.int .i64 a1_0) := (blk_cell BK144.out 0).trans rfl; have hcz20_1 : w17.cell? ⟨gb144, 1, none⟩ = some (.int .i64 a1_1) := (blk_cell BK144.out 1).trans rfl; have hfz20_0 := blk_frozen BK144.out 0; have hfz20_1 := blk_frozen BK144.out 1) | ((with_reducible refine gate_dst (N := 15) rfl ?_); refine Kd.R_lit (Kd.int .i64) _ 2 ?hg (N := 15) ?hd (xs := ([a0_0, a0_1, a1_0, a1_1] : List Int)) (inner := [.int .i64 a0_0, .int .i64 a0_1, .int .i64 a1_0, .int .i64 a1_1]) (ok := fun _ => True) (okp := fun _ => True) ?hr ?hp (fun _ hk => hk) trivial (Below.refl _ _) (Nat.le_refl _) (by simp) ?_; (case hd => rfl); (case hg => rfl); (case hr => first | (go_simp; done) | (go_simp; rfl)); (case hp => exact (Reps.one (show Kd.M (Kd.int .i64) _ _ _ a0_0 [.int .i64 a0_0] from rfl) (Reps.one (show Kd.M (Kd.int .i64) _ _ _ a0_1 [.int .i64 a0_1] from rfl) (Reps.one (show Kd.M (Kd.int .i64) _ _ _ a1_0 [.int .i64 a1_0] from rfl) (Reps.one (show Kd.M (Kd.int .i64) _ _ _ a1_1 [.int .i64 a1_1] from rfl) (Reps.none _ _)))))); intro v146 w21 ho22 hb hg_ hnew_; clear hg_ hnew_; (first | rw [← Ny145.out] at ho22 | (simp only [Int.reduceToNat] at ho22; rw [← Ny145.out] at ho22)); have n0_ := Aside0.mk (Kd.R_lower ho22 (below_size (by repeat (first | (with_reducible first | exact HB.out | apply below_alloc | apply pw_below_drewN | apply below_drew1 | refine below_set ?_ GE143.out | refine below_set ?_ GE144.out) | exact HB.out)))); have n1_ := Aside0.mk (blk_below (g := gb143) (o := .cells #[.int .i64 a0_0, .int .i64 a0_1] 33 (0, 0)) (by (with_reducible repeat (first | refine blk_drewN ?_ _ | refine blk_drew ?_ | refine blk_alloc ?_ _)); exact BK143.out) hb); have n2_ := Aside0.mk (blk_below (g := gb144) (o := .cells #[.int .i64 a1_0, .int .i64 a1_1] 33 (0, 0)) (by (with_reducible repeat (first | refine blk_drewN ?_ _ | refine blk_drew ?_ | refine blk_alloc ?_ _)); exact BK144.out) hb); have n3_ := Aside0.mk (below_step (by repeat (first | (with_reducible first | exact HB.out | apply below_alloc | apply pw_below_drewN | apply below_drew1 | refine below_set ?_ GE143.out | refine below_set ?_ GE144.out) | exact HB.out)) hb); clear BK143; clear BK144; clear HB; have HO147 := n0_; have BK143 := n1_; have BK144 := n2_; have HB := n3_; clear n0_ n1_ n2_ n3_; clear hb ho22; obtain ⟨Ao23, co23, eo23⟩ := Kd.R_slice HO147.out; subst eo23) | ((with_reducible refine gate_callee (f := 33) rfl ?_); refine goesL_ (some 16) rfl rfl Try.func33 (by kernel_rfl) rfl #[.slice Ao23 y145.length co23] rfl (by (try simp only [List.map_toArray, List.map_cons, List.map_nil]); first | done | rfl | (simp only [List.length_drop, List.length_take]; rfl)) ?_; (with_reducible refine (affine_small.calls k _ _ y145 true _ ?side1 ?side2 A4.out).mono ?_); (case side1 => repeat (first | exact (Kd.R_reads' HO147.out).2.2 | (with_reducible refine Kd.C_alloc ?_ _) | (with_reducible refine Kd.C_drewN ?_ _) | (with_reducible refine Kd.C_drew ?_))); (case side2 => exact (Kd.R_reads' HO147.out).2.1); rintro e w' ⟨rfl, ⟨nd, rfl⟩⟩; refine ⟨_, rfl, ?_⟩) | (go_at_call 33; (with_reducible refine (affine_small.calls k _ _ l2 false _ ?side1 ?side2 A6.out).mono ?_); (case side1 => repeat (first | exact (Kd.C_below HR2.out (by repeat (first | (with_reducible first | exact HB.out | apply below_alloc | apply pw_below_drewN | apply below_drew1 | refine below_set ?_ GE143.out | refine below_set ?_ GE144.out) | exact HB.out))) | (with_reducible refine Kd.C_alloc ?_ _) | (with_reducible refine Kd.C_drewN ?_ _) | (with_reducible refine Kd.C_drew ?_))); (case side2 => exact HC2.out); rintro e w' ⟨rfl, ⟨nd, rfl⟩⟩))
      go_ret
      exact ⟨by first | rfl | (simp [errW_none, errW_some] <;> rfl) | (simp [*, errW_none, errW_some] <;> rfl), by repeat (first | (with_reducible first | exact HB.out | apply below_alloc | apply pw_below_drewN | apply below_drew1 | refine below_set ?_ GE143.out | refine below_set ?_ GE144.out) | exact HB.out)⟩
  · replace c5 := Bool.eq_false_iff.mpr c5
    subst c5
    have H1 : (some 3) = some r := by rw [if_neg (show ¬ (false = true) by decide)] at H; exact H
    clear H
    have H := H1
    clear H1
    obtain rfl := Option.some.inj H
    go_enter Try.func36, Try.ntmps36
    go_wp2_with (first | ((with_reducible refine gate_dst (N := 3) rfl ?_); refine box_event ?hg (N := 3) ?hd (cs := #[.int .i64 a0_0, .int .i64 a0_1]) (t := 33) ?hr ?_; (case hd => rfl); (case hg => rfl); (case hr => first | (go_simp; done) | (go_simp; rfl)); intro gb143 hg w24 hbox hb; have n0_ := Aside0.mk (below_step (by repeat (first | (with_reducible first | exact HB.out | apply below_alloc | apply pw_below_drewN | apply below_drew1) | exact HB.out)) hb); have n1_ := Aside0.mk (hbox); have n2_ := Aside0.mk ((by rw [hg]; exact (below_size (by repeat (first | (with_reducible first | exact HB.out | apply below_alloc | apply pw_below_drewN | apply below_drew1) | exact HB.out))) : w.heap.size ≤ gb143)); have n3_ := Aside0.mk ((by rw [hg]; exact (below_size (by repeat (first | (with_reducible first | exact HB.out | apply below_alloc | apply pw_below_drewN | apply below_drew1) | exact HB.out))) : w.heap.size ≤ gb143)); clear HB; have HB := n0_; have BK143 := n1_; have GW143 := n2_; have GE143 := n3_; clear n0_ n1_ n2_ n3_; clear hb hbox hg) | ((with_reducible refine gate_dst (N := 4) rfl ?_); refine box_event ?hg (N := 4) ?hd (cs := #[.int .i64 a1_0, .int .i64 a1_1]) (t := 33) ?hr ?_; (case hd => rfl); (case hg => rfl); (case hr => first | (go_simp; done) | (go_simp; rfl)); intro gb144 hg w25 hbox hb; have n0_ := Aside0.mk (blk_below (g := gb143) (o := .cells #[.int .i64 a0_0, .int .i64 a0_1] 33 (0, 0)) (by (with_reducible repeat (first | refine blk_drewN ?_ _ | refine blk_drew ?_ | refine blk_alloc ?_ _)); exact BK143.out) hb); have n1_ := Aside0.mk (below_step (by repeat (first | (with_reducible first | exact HB.out | apply below_alloc | apply pw_below_drewN | apply below_drew1 | refine below_set ?_ GE143.out) | exact HB.out)) hb); have n2_ := Aside0.mk (hbox); have n3_ := Aside0.mk ((by rw [hg]; exact (below_size (by repeat (first | (with_reducible first | exact HB.out | apply below_alloc | apply pw_below_drewN | apply below_drew1 | refine below_set ?_ GE143.out) | exact HB.out))) : w.heap.size ≤ gb144)); have n4_ := Aside0.mk ((by rw [hg]; exact (below_size (by repeat (first | (with_reducible first | exact HB.out | apply below_alloc | apply pw_below_drewN | apply below_drew1 | refine below_set ?_ GE143.out) | exact HB.out))) : w.heap.size ≤ gb144)); have n5_ := Aside0.mk ((by rw [hg]; exact Nat.ne_of_lt (blk_lt (g := gb143) (o := .cells #[.int .i64 a0_0, .int .i64 a0_1] 33 (0, 0)) (by (with_reducible repeat (first | refine blk_drewN ?_ _ | refine blk_drew ?_ | refine blk_alloc ?_ _)); exact BK143.out)) : gb143 ≠ gb144)); have n6_ := Aside0.mk ((by rw [hg]; exact Nat.ne_of_gt (blk_lt (g := gb143) (o := .cells #[.int .i64 a0_0, .int .i64 a0_1] 33 (0, 0)) (by (with_reducible repeat (first | refine blk_drewN ?_ _ | refine blk_drew ?_ | refine blk_alloc ?_ _)); exact BK143.out)) : gb144 ≠ gb143)); clear BK143; clear HB; have BK143 := n0_; have HB := n1_; have BK144 := n2_; have GW144 := n3_; have GE144 := n4_; have NB143_144 := n5_; have NB144_143 := n6_; clear n0_ n1_ n2_ n3_ n4_ n5_ n6_; clear hb hbox hg; have hnb26 := NB143_144.out; have hnc26 := NB144_143.out; have hcz27_0 : w25.cell? ⟨gb143, 0, none⟩ = some (.int .i64 a0_0) := (blk_cell BK143.out 0).trans rfl; have hcz27_1 : w25.cell? ⟨gb143, 1, none⟩ = some (.int .i64 a0_1) := (blk_cell BK143.out 1).trans rfl; have hfz27_0 := blk_frozen BK143.out 0; have hfz27_1 := blk_frozen BK143.out 1; have hcz28_0 : w25.cell? ⟨gb144, 0, none⟩ = some (.int .i64 a1_0) := (blk_cell BK144.out 0).trans rfl; have hcz28_1 : w25.cell? ⟨gb144, 1, none⟩ = some (.int .i64 a1_1) := (blk_cell BK144.out 1).trans rfl; have hfz28_0 := blk_frozen BK144.out 0; have hfz28_1 := blk_frozen BK144.out 1) | ((with_reducible refine gate_dst (N := 15) rfl ?_); refine Kd.R_lit (Kd.int .i64) _ 2 ?hg (N := 15) ?hd (xs := ([a0_0, a0_1, a1_0, a1_1] : List Int)) (inner := [.int .i64 a0_0, .int .i64 a0_1, .int .i64 a1_0, .int .i64 a1_1]) (ok := fun _ => True) (okp := fun _ => True) ?hr ?hp (fun _ hk => hk) trivial (Below.refl _ _) (Nat.le_refl _) (by simp) ?_; (case hd => rfl); (case hg => rfl); (case hr => first | (go_simp; done) | (go_simp; rfl)); (case hp => exact (Reps.one (show Kd.M (Kd.int .i64) _ _ _ a0_0 [.int .i64 a0_0] from rfl) (Reps.one (show Kd.M (Kd.int .i64) _ _ _ a0_1 [.int .i64 a0_1] from rfl) (Reps.one (show Kd.M (Kd.int .i64) _ _ _ a1_0 [.int .i64 a1_0] from rfl) (Reps.one (show Kd.M (Kd.int .i64) _ _ _ a1_1 [.int .i64 a1_1] from rfl) (Reps.none _ _)))))); intro v146 w29 ho30 hb hg_ hnew_; clear hg_ hnew_; (first | rw [← Ny145.out] at ho30 | (simp only [Int.reduceToNat] at ho30; rw [← Ny145.out] at ho30)); have n0_ := Aside0.mk (Kd.R_lower ho30 (below_size (by repeat (first | (with_reducible first | exact HB.out | apply below_alloc | apply pw_below_drewN | apply below_drew1 | refine below_set ?_ GE143.out | refine below_set ?_ GE144.out) | exact HB.out)))); have n1_ := Aside0.mk (blk_below (g := gb143) (o := .cells #[.int .i64 a0_0, .int .i64 a0_1] 33 (0, 0)) (by (with_reducible repeat (first | refine blk_drewN ?_ _ | refine blk_drew ?_ | refine blk_alloc ?_ _)); exact BK143.out) hb); have n2_ := Aside0.mk (blk_below (g := gb144) (o := .cells #[.int .i64 a1_0, .int .i64 a1_1] 33 (0, 0)) (by (with_reducible repeat (first | refine blk_drewN ?_ _ | refine blk_drew ?_ | refine blk_alloc ?_ _)); exact BK144.out) hb); have n3_ := Aside0.mk (below_step (by repeat (first | (with_reducible first | exact HB.out | apply below_alloc | apply pw_below_drewN | apply below_drew1 | refine below_set ?_ GE143.out | refine below_set ?_ GE144.out) | exact HB.out)) hb); clear BK143; clear BK144; clear HB; have HO147 := n0_; have BK143 := n1_; have BK144 := n2_; have HB := n3_; clear n0_ n1_ n2_ n3_; clear hb ho30; obtain ⟨Ao31, co31, eo31⟩ := Kd.R_slice HO147.out; subst eo31) | ((with_reducible refine gate_callee (f := 33) rfl ?_); refine goesL_ (some 16) rfl rfl Try.func33 (by kernel_rfl) rfl #[.slice Ao31 y145.length co31] rfl (by (try simp only [List.map_toArray, List.map_cons, List.map_nil]); first | done | rfl | (simp only [List.length_drop, List.length_take]; rfl)) ?_; (with_reducible refine (affine_small.calls k _ _ y145 false _ ?side1 ?side2 A4.out).mono ?_); (case side1 => repeat (first | exact (Kd.R_reads' HO147.out).2.2 | (with_reducible refine Kd.C_alloc ?_ _) | (with_reducible refine Kd.C_drewN ?_ _) | (with_reducible refine Kd.C_drew ?_))); (case side2 => exact (Kd.R_reads' HO147.out).2.1); rintro e w' ⟨rfl, ⟨nd, rfl⟩⟩; refine ⟨_, rfl, ?_⟩))
    go_ret
    exact ⟨by first | rfl | (simp [errW_none, errW_some] <;> rfl) | (simp [*, errW_none, errW_some] <;> rfl), by repeat (first | (with_reducible first | exact HB.out | apply below_alloc | apply pw_below_drewN | apply below_drew1 | refine below_set ?_ GE143.out | refine below_set ?_ GE144.out) | exact HB.out)⟩

/-! ### affine_ceil: function 39 -/
def affine_ceil.f (a0 : Int) (a1 : Int) : Option (Int) := (affine_floor.f (wrap64 (-a0)) a1).bind fun t150 => (some (wrap64 (-t150)))
set_option maxHeartbeats 8000000 in
set_option maxRecDepth 100000 in
theorem affine_ceil.calls (a0 : Int) (a1 : Int) (r : Int) (w : World) (h : affine_ceil.f a0 a1 = some r) :
    Calls Try.prog 39 #[.int .i64 a0, .int .i64 a1] w fun e w' => e = .returned (.int .i64 r) ∧ Drawn0 w w' := by
  have H : ((affine_floor.f (wrap64 (-a0)) a1).bind fun t150 => (some (wrap64 (-t150)))) = some r := h
  clear h
  replace H := Option.bind_eq_some_iff.mp H
  obtain ⟨t150, A30, H⟩ := H
  replace H : (some (wrap64 (-t150))) = some r := H
  have A3 := Aside0.mk A30
  clear A30
  obtain rfl := Option.some.inj H
  go_enter Try.func39, Try.ntmps39
  go_wp2_with (first | ((with_reducible refine gate_callee (f := 40) rfl ?_); refine goesL_ (some 8) rfl rfl Try.func40 (by kernel_rfl) rfl #[.int .i64 (wrap64 (-a0)), .int .i64 a1] rfl (by (try simp only [List.map_toArray, List.map_cons, List.map_nil]); first | done | rfl | (simp only [List.length_drop, List.length_take]; rfl)) ?_; (with_reducible refine (affine_floor.calls (wrap64 (-a0)) a1 t150 _ A3.out).mono ?_); rintro e w' ⟨rfl, ⟨nd, rfl⟩⟩; refine ⟨_, rfl, ?_⟩))
  go_ret
  exact ⟨by first | rfl | (simp; done) | (simp [*]; done), by repeat (first | exact Drawn0.refl _ | apply Drawn0.step)⟩

/-! ### affine_span_within: function 53 -/
def affine_span_within.f (a0_0 : Int) (a0_1 : Int) (a1 : Int) (a2 : Int) (a3 : Int) : Option (Int × Int × Bool) := if a3 ≤ 0 then (some (a0_0, a0_1, false)) else (if a2 = 0 then (if a1 ≥ 0 then (some (a0_0, a0_1, decide (a1 < a3))) else (some (a0_0, a0_1, false))) else (if a2 < 0 then ((affine_ceil.f (wrap64 ((wrap64 (a3 - 1)) - a1)) a2).bind fun t153 => ((affine_floor.f (wrap64 (-a1)) a2).bind fun t154 => (some (mx a0_0 t153, mn a0_1 t154, decide ((mx a0_0 t153) ≤ (mn a0_1 t154)))))) else ((affine_ceil.f (wrap64 (-a1)) a2).bind fun t155 => ((affine_floor.f (wrap64 ((wrap64 (a3 - 1)) - a1)) a2).bind fun t156 => (some (mx a0_0 t155, mn a0_1 t156, decide ((mx a0_0 t155) ≤ (mn a0_1 t156))))))))

/-! ### affine_meet: function 37 -/
def affine_meet.f (k : Nat) (a0_0 : Int) (a0_1 : Int) (a1_0 : Int) (a1_1 : Int) (a2 : Int) (a3 : Int) : Option (Int × Int × Int × Int × Int × Int × Bool × Bool) := if a2 ≤ 0 then (some (0, 0, 0, 0, 0, 0, false, false)) else (if a3 ≤ 0 then (some (0, 0, 0, 0, 0, 0, false, false)) else ((affine_solve.f k a0_1 (wrap64 (-a1_1)) (wrap64 (a1_0 - a0_0))).bind fun bt160 => (if bt160.2.2.2.2 = true then (if a0_1 = 0 then (if a1_1 = 0 then (some (bt160.1, bt160.2.1, bt160.2.2.1, bt160.2.2.2.1, (-1099511627776), 1099511627776, (a1_1 == 0), true)) else ((affine_span_within.f (-1099511627776) 1099511627776 bt160.1 bt160.2.1 a2).bind fun bt167 => (if bt167.2.2 = true then ((affine_span_within.f bt167.1 bt167.2.1 bt160.2.2.1 bt160.2.2.2.1 a3).bind fun bt170 => (some (bt160.1, bt160.2.1, bt160.2.2.1, bt160.2.2.2.1, bt170.1, bt170.2.1, (a1_1 == 0), bt170.2.2))) else (some (0, 0, 0, 0, 0, 0, false, false))))) else ((affine_span_within.f (-1099511627776) 1099511627776 bt160.1 bt160.2.1 a2).bind fun bt174 => (if bt174.2.2 = true then ((affine_span_within.f bt174.1 bt174.2.1 bt160.2.2.1 bt160.2.2.2.1 a3).bind fun bt177 => (some (bt160.1, bt160.2.1, bt160.2.2.1, bt160.2.2.2.1, bt177.1, bt177.2.1, false, bt177.2.2))) else (some (0, 0, 0, 0, 0, 0, false, false))))) else (some (0, 0, 0, 0, 0, 0, false, false)))))

/-! ### affine_keep: function 38 -/
def affine_keep.f (a0 : Int) (a1 : Bool) : Option (Int × Bool × Int) := if a1 = true then (some (a0, true, 0)) else (some (0, false, 0))
set_option maxHeartbeats 8000000 in
set_option maxRecDepth 100000 in
theorem affine_keep.calls (a0 : Int) (a1 : Bool) (r1 : Int) (r2 : Bool) (r3 : Int) (w : World) (h : affine_keep.f a0 a1 = some (r1, r2, r3)) :
    Calls Try.prog 38 #[.int .i64 a0, .bool a1] w fun e w' => e = .returned (.tuple #[.int .i64 r1, .bool r2, .int .i64 r3]) ∧ Drawn0 w w' := by
  have H : (if a1 = true then (some (a0, true, 0)) else (some (0, false, 0))) = some (r1, r2, r3) := h
  clear h
  by_cases c3 : a1 = true
  · subst c3
    have H1 : (some (a0, true, 0)) = some (r1, r2, r3) := by rw [if_pos rfl] at H; exact H
    clear H
    have H := H1
    clear H1
    simp only [Option.some.injEq, Prod.mk.injEq] at H
    obtain ⟨rfl, rfl, rfl⟩ := H
    go_enter Try.func38, Try.ntmps38
    go_wp2
    go_ret3
    exact ⟨by first | rfl | (simp; done) | (simp [*]; done), by repeat (first | exact Drawn0.refl _ | apply Drawn0.step)⟩
  · replace c3 := Bool.eq_false_iff.mpr c3
    subst c3
    have H1 : (some (0, false, 0)) = some (r1, r2, r3) := by rw [if_neg (show ¬ (false = true) by decide)] at H; exact H
    clear H
    have H := H1
    clear H1
    simp only [Option.some.injEq, Prod.mk.injEq] at H
    obtain ⟨rfl, rfl, rfl⟩ := H
    go_enter Try.func38, Try.ntmps38
    go_wp2
    go_ret3
    exact ⟨by first | rfl | (simp; done) | (simp [*]; done), by repeat (first | exact Drawn0.refl _ | apply Drawn0.step)⟩

/-! ### affine_span_least: function 41 -/
def affine_span_least.f (a0_0 : Int) (a0_1 : Int) (a1 : Int) (a2 : Int) : Option (Int) := some (mn (wrap64 (a1 + (wrap64 (a2 * a0_0)))) (wrap64 (a1 + (wrap64 (a2 * a0_1)))))
set_option maxHeartbeats 8000000 in
set_option maxRecDepth 100000 in
theorem affine_span_least.calls (a0_0 : Int) (a0_1 : Int) (a1 : Int) (a2 : Int) (r : Int) (w : World) (h : affine_span_least.f a0_0 a0_1 a1 a2 = some r) :
    Calls Try.prog 41 #[.agg #[.int .i64 a0_0, .int .i64 a0_1], .int .i64 a1, .int .i64 a2] w fun e w' => e = .returned (.int .i64 r) ∧ Below w.heap.size w w' := by
  have hu68 := Try.underlying68
  have HB := Aside0.mk (Below.refl w.heap.size w)
  have H : (some (mn (wrap64 (a1 + (wrap64 (a2 * a0_0)))) (wrap64 (a1 + (wrap64 (a2 * a0_1)))))) = some r := h
  clear h
  obtain ⟨ji4, hji4⟩ : ∃ j_ : Int, (mn (wrap64 (a1 + (wrap64 (a2 * a0_0)))) (wrap64 (a1 + (wrap64 (a2 * a0_1))))) = j_ := ⟨_, rfl⟩
  replace H : (some ji4) = some r := by first | (rw [hji4] at H; exact H) | (simp only [hji4] at H ⊢; exact H)
  have hji4_ : (if (wrap64 (a1 + (wrap64 (a2 * a0_1)))) < (wrap64 (a1 + (wrap64 (a2 * a0_0)))) then (wrap64 (a1 + (wrap64 (a2 * a0_1)))) else (wrap64 (a1 + (wrap64 (a2 * a0_0))))) = ji4 := hji4
  obtain rfl := Option.some.inj H
  go_enter Try.func41, Try.ntmps41
  go_wp2_with (first | ((with_reducible refine gate_dst (N := 3) rfl ?_); refine box_event ?hg (N := 3) ?hd (cs := #[.int .i64 a0_0, .int .i64 a0_1]) (t := 68) ?hr ?_; (case hd => rfl); (case hg => rfl); (case hr => first | (go_simp; done) | (go_simp; rfl)); intro gb180 hg w5 hbox hb; have n0_ := Aside0.mk (below_step (by repeat (first | (with_reducible first | exact HB.out | apply below_alloc | apply pw_below_drewN | apply below_drew1) | exact HB.out)) hb); have n1_ := Aside0.mk (hbox); have n2_ := Aside0.mk ((by rw [hg]; exact (below_size (by repeat (first | (with_reducible first | exact HB.out | apply below_alloc | apply pw_below_drewN | apply below_drew1) | exact HB.out))) : w.heap.size ≤ gb180)); have n3_ := Aside0.mk ((by rw [hg]; exact (below_size (by repeat (first | (with_reducible first | exact HB.out | apply below_alloc | apply pw_below_drewN | apply below_drew1) | exact HB.out))) : w.heap.size ≤ gb180)); clear HB; have HB := n0_; have BK180 := n1_; have GW180 := n2_; have GE180 := n3_; clear n0_ n1_ n2_ n3_; clear hb hbox hg; have hcz6_0 : w5.cell? ⟨gb180, 0, none⟩ = some (.int .i64 a0_0) := (blk_cell BK180.out 0).trans rfl; have hcz6_1 : w5.cell? ⟨gb180, 1, none⟩ = some (.int .i64 a0_1) := (blk_cell BK180.out 1).trans rfl; have hfz6_0 := blk_frozen BK180.out 0; have hfz6_1 := blk_frozen BK180.out 1))
  go_ret
  exact ⟨by first | rfl | (simp [errW_none, errW_some] <;> rfl) | (simp only [← hji4]; first | rfl | (simp [errW_none, errW_some] <;> rfl)) | (simp [*, errW_none, errW_some] <;> rfl), by repeat (first | (with_reducible first | exact HB.out | apply below_alloc | apply pw_below_drewN | apply below_drew1 | refine below_set ?_ GE180.out) | exact HB.out)⟩

/-! ### affine_Ahead: function 18 -/
mutual
def affine_Ahead.j0 : Nat → Int → Int → Int → Bool → Int → Int → Int → Int → Option (Int × Bool × Int)
  | 0, _, _, _, _, _, _, _, _ => none
  | k + 1, x2, x3, x11, x28, x182000, x182001, x183000, x183001 => if x28 = true then (affine_Ahead.j1 k x2 x3 2 x182000 x182001 x183000 x183001) else (affine_Ahead.j1 k x2 x3 x11 x182000 x182001 x183000 x183001)
def affine_Ahead.j1 : Nat → Int → Int → Int → Int → Int → Int → Int → Option (Int × Bool × Int)
  | 0, _, _, _, _, _, _, _ => none
  | k + 1, x2, x3, x11, x182000, x182001, x183000, x183001 => if x11 = 0 then ((affine_meet.f k x182000 x182001 x183000 x183001 x2 x2).bind fun bt187 => (if bt187.2.2.2.2.2.2.2 = true then (if bt187.2.2.2.2.2.2.1 = true then ((affine_keep.f (mx x3 (wrap64 (-(wrap64 (x2 - 1))))) (decide ((mx x3 (wrap64 (-(wrap64 (x2 - 1))))) < x2))).bind fun bt196 => (some (bt196.1, bt196.2.1, bt196.2.2))) else (if (wrap64 (bt187.2.2.2.1 - bt187.2.1)) = 0 then ((affine_keep.f (wrap64 (bt187.2.2.1 - bt187.1)) (decide ((wrap64 (bt187.2.2.1 - bt187.1)) ≥ x3))).bind fun bt199 => (some (bt199.1, bt199.2.1, bt199.2.2))) else (if (wrap64 (bt187.2.2.2.1 - bt187.2.1)) > 0 then ((affine_ceil.f (wrap64 (x3 - (wrap64 (bt187.2.2.1 - bt187.1)))) (wrap64 (bt187.2.2.2.1 - bt187.2.1))).bind fun t202 => (if (mx bt187.2.2.2.2.1 t202) > bt187.2.2.2.2.2.1 then (some (0, false, 0)) else ((affine_span_least.f (mx bt187.2.2.2.2.1 t202) bt187.2.2.2.2.2.1 (wrap64 (bt187.2.2.1 - bt187.1)) (wrap64 (bt187.2.2.2.1 - bt187.2.1))).bind fun t203 => (some (t203, true, 0))))) else ((affine_floor.f (wrap64 (x3 - (wrap64 (bt187.2.2.1 - bt187.1)))) (wrap64 (bt187.2.2.2.1 - bt187.2.1))).bind fun t204 => (if bt187.2.2.2.2.1 > (mn bt187.2.2.2.2.2.1 t204) then (some (0, false, 0)) else ((affine_span_least.f bt187.2.2.2.2.1 (mn bt187.2.2.2.2.2.1 t204) (wrap64 (bt187.2.2.1 - bt187.1)) (wrap64 (bt187.2.2.2.1 - bt187.2.1))).bind fun t205 => (some (t205, true, 0)))))))) else (some (0, false, 0)))) else (some (0, false, x11))
end
def affine_Ahead.f (k : Nat) (a0_0 : Int) (a0_1 : Int) (a1_0 : Int) (a1_1 : Int) (a2 : Int) (a3 : Int) : Option (Int × Bool × Int) := (affine_lines.f k a0_0 a0_1 a1_0 a1_1 (([a2, a3] : List Int))).bind fun t186 => (if t186 = 0 then (affine_Ahead.j0 k a2 a3 t186 (decide (a2 < 0)) a0_0 a0_1 a1_0 a1_1) else (affine_Ahead.j0 k a2 a3 t186 false a0_0 a0_1 a1_0 a1_1))

/-! ### affine_Behind: function 19 -/
def affine_Behind.f (k : Nat) (a0_0 : Int) (a0_1 : Int) (a1_0 : Int) (a1_1 : Int) (a2 : Int) : Option (Int × Bool × Int) := (affine_Ahead.f k a1_0 a1_1 a0_0 a0_1 a2 (wrap64 (-(mx a2 0)))).bind fun bt208 => (some (wrap64 (-bt208.1), bt208.2.1, bt208.2.2))

/-! ### affine_Meet: function 27 -/
mutual
def affine_Meet.j0 : Nat → Int → Int → Int → Bool → Int → Int → Int → Int → Option (Int × Int × Bool × Int)
  | 0, _, _, _, _, _, _, _, _ => none
  | k + 1, x2, x3, x12, x31, x212000, x212001, x213000, x213001 => if x31 = true then (affine_Meet.j1 k x2 x3 2 x212000 x212001 x213000 x213001) else (affine_Meet.j1 k x2 x3 x12 x212000 x212001 x213000 x213001)
def affine_Meet.j1 : Nat → Int → Int → Int → Int → Int → Int → Int → Option (Int × Int × Bool × Int)
  | 0, _, _, _, _, _, _, _ => none
  | k + 1, x2, x3, x12, x212000, x212001, x213000, x213001 => if x12 = 0 then ((affine_meet.f k x212000 x212001 x213000 x213001 x2 x3).bind fun bt217 => (if bt217.2.2.2.2.2.2.2 = true then (affine_Meet.j2 k bt217.2.2.2.2.2.2.2 bt217.2.2.2.2.2.2.1 bt217.1 bt217.2.1 bt217.2.2.1 bt217.2.2.2.1 bt217.2.2.2.2.1 bt217.2.2.2.2.2.1 bt217.2.2.2.2.2.2.1) else (affine_Meet.j2 k bt217.2.2.2.2.2.2.2 true bt217.1 bt217.2.1 bt217.2.2.1 bt217.2.2.2.1 bt217.2.2.2.2.1 bt217.2.2.2.2.2.1 bt217.2.2.2.2.2.2.1))) else (some (0, 0, false, x12))
def affine_Meet.j2 : Nat → Bool → Bool → Int → Int → Int → Int → Int → Int → Bool → Option (Int × Int × Bool × Int)
  | 0, _, _, _, _, _, _, _, _, _ => none
  | k + 1, x14, x43, x226000, x226001, x226002, x226003, x226004, x226005, x226006 => if x43 = true then (some (0, 0, x14, 0)) else (if x226001 = 0 then ((affine_span_least.f x226004 x226005 x226002 x226003).bind fun t226 => (some (x226000, t226, true, 0))) else (some (wrap64 (x226000 + (wrap64 (x226001 * x226004))), wrap64 (x226002 + (wrap64 (x226003 * x226004))), true, 0)))
end
def affine_Meet.f (k : Nat) (a0_0 : Int) (a0_1 : Int) (a1_0 : Int) (a1_1 : Int) (a2 : Int) (a3 : Int) : Option (Int × Int × Bool × Int) := (affine_lines.f k a0_0 a0_1 a1_0 a1_1 (([a2, a3] : List Int))).bind fun t216 => (if t216 = 0 then (if a2 < 0 then (affine_Meet.j0 k a2 a3 t216 true a0_0 a0_1 a1_0 a1_1) else (affine_Meet.j0 k a2 a3 t216 (decide (a3 < 0)) a0_0 a0_1 a1_0 a1_1)) else (affine_Meet.j0 k a2 a3 t216 false a0_0 a0_1 a1_0 a1_1))

attribute [local go_sem high] eqA23

/-! ### biremelaw14_alive: function 16 -/
def biremelaw14_alive.f (k : Nat)  : Option (Bool) := (affine_Solve.f k 2 (-3) 1).bind fun bt227 => ((affine_Meet.f k 0 2 1 3 10 10).bind fun bt234 => ((affine_Ahead.f k 0 2 1 3 10 0).bind fun bt238 => ((affine_Behind.f k 0 2 1 3 10).bind fun bt241 => (if bt227.2.2.2.2.2 = 0 then (if bt227.2.2.2.2.1 = true then (if (bt227.1 == 2 && (bt227.2.1 == 3 && (bt227.2.2.1 == 1 && (bt227.2.2.2.1 == 2)))) = true then (if bt234.2.2.2 = 0 then (if bt234.2.2.1 = true then (if bt234.1 = 2 then (if bt234.2.1 = 1 then (if bt238.2.2 = 0 then (if bt238.2.1 = true then (some false) else (if bt241.2.2 = 0 then (if bt241.2.1 = true then (some (bt241.1 == (-1))) else (some false)) else (some false))) else (some false)) else (some false)) else (some false)) else (some false)) else (some false)) else (some false)) else (some false)) else (some false)))))

/-! ### affine_Gcd: function 25 -/
def affine_Gcd.f (k : Nat) (a0 : Int) (a1 : Int) : Option (Int × Int × Int × Int) := (affine_small.f k (([a0, a1] : List Int))).bind fun t247 => (if t247 = true then ((affine_gcd.f k a0 a1).bind fun bt248 => (some (bt248.1, bt248.2.1, bt248.2.2, 0))) else (some (0, 0, 0, 3)))
theorem affine_Gcd.mono : ∀ a0 a1 k, LeO (affine_Gcd.f k a0 a1) (affine_Gcd.f (k + 1) a0 a1) := by
  intro a0 a1 k
  unfold affine_Gcd.f
  repeat' first
      | (with_reducible exact affine_gcd.mono _ _ _)
      | (with_reducible exact affine_small.mono _ _)
      | (with_reducible exact LeO.refl _)
      | (with_reducible exact LeO.none _)
      | (with_reducible refine LeO.ite ?_ ?_)
      | (with_reducible refine LeO.bind ?_ (fun _ => ?_))
      | exact affine_gcd.mono _ _ _
      | exact affine_small.mono _ _
      | exact LeO.none _
      | refine LeO.ite ?_ ?_
      | refine LeO.bind ?_ (fun _ => ?_)
set_option maxHeartbeats 8000000 in
set_option maxRecDepth 100000 in
theorem affine_Gcd.calls (k : Nat) (a0 : Int) (a1 : Int) (r1 : Int) (r2 : Int) (r3 : Int) (r4 : Int) (w : World) (h : affine_Gcd.f k a0 a1 = some (r1, r2, r3, r4)) :
    Calls Try.prog 25 #[.int .i64 a0, .int .i64 a1] w fun e w' => e = .returned (.tuple #[.int .i64 r1, .int .i64 r2, .int .i64 r3, .int .i64 r4]) ∧ Below w.heap.size w w' := by
  have HB := Aside0.mk (Below.refl w.heap.size w)
  have H : ((affine_small.f k (([a0, a1] : List Int))).bind fun t247 => (if t247 = true then ((affine_gcd.f k a0 a1).bind fun bt248 => (some (bt248.1, bt248.2.1, bt248.2.2, 0))) else (some (0, 0, 0, 3)))) = some (r1, r2, r3, r4) := h
  clear h
  obtain ⟨y244, hy244⟩ : ∃ y_ : List Int, y_ = (([a0, a1] : List Int)) := ⟨_, rfl⟩
  replace H : ((affine_small.f k y244).bind fun t247 => (if t247 = true then ((affine_gcd.f k a0 a1).bind fun bt248 => (some (bt248.1, bt248.2.1, bt248.2.2, 0))) else (some (0, 0, 0, 3)))) = some (r1, r2, r3, r4) := by first | (rw [hy244]; with_reducible exact H) | (have H2_ := (Option.bind_some _ _).symm.trans H; rw [hy244]; with_reducible exact H2_) | (have H2_ := (Option.bind_some _ _).symm.trans H; with_reducible exact H2_) | with_reducible exact H | (rw [hy244]; exact H) | exact H
  have Ny244 := Aside0.mk hy244
  clear hy244
  replace H := Option.bind_eq_some_iff.mp H
  obtain ⟨t247, A30, H⟩ := H
  replace H : (if t247 = true then ((affine_gcd.f k a0 a1).bind fun bt248 => (some (bt248.1, bt248.2.1, bt248.2.2, 0))) else (some (0, 0, 0, 3))) = some (r1, r2, r3, r4) := H
  have A3 := Aside0.mk A30
  clear A30
  by_cases c4 : t247 = true
  · subst c4
    have H1 : ((affine_gcd.f k a0 a1).bind fun bt248 => (some (bt248.1, bt248.2.1, bt248.2.2, 0))) = some (r1, r2, r3, r4) := by rw [if_pos rfl] at H; exact H
    clear H
    have H := H1
    clear H1
    replace H := Option.bind_eq_some_iff.mp H
    obtain ⟨⟨t248, t249, t250⟩, A50, H⟩ := H
    replace H : (some (t248, t249, t250, 0)) = some (r1, r2, r3, r4) := H
    have A5 := Aside0.mk A50
    clear A50
    simp only [Option.some.injEq, Prod.mk.injEq] at H
    obtain ⟨rfl, rfl, rfl, rfl⟩ := H
    go_enter Try.func25, Try.ntmps25
    go_wp2_with (first | ((with_reducible refine gate_dst (N := 13) rfl ?_); refine Kd.R_lit (Kd.int .i64) _ 2 ?hg (N := 13) ?hd (xs := ([a0, a1] : List Int)) (inner := [.int .i64 a0, .int .i64 a1]) (ok := fun _ => True) (okp := fun _ => True) ?hr ?hp (fun _ hk => hk) trivial (Below.refl _ _) (Nat.le_refl _) (by simp) ?_; (case hd => rfl); (case hg => rfl); (case hr => first | (go_simp; done) | (go_simp; rfl)); (case hp => exact (Reps.one (show Kd.M (Kd.int .i64) _ _ _ a0 [.int .i64 a0] from rfl) (Reps.one (show Kd.M (Kd.int .i64) _ _ _ a1 [.int .i64 a1] from rfl) (Reps.none _ _)))); intro v245 w6 ho7 hb hg_ hnew_; clear hg_ hnew_; (first | rw [← Ny244.out] at ho7 | (simp only [Int.reduceToNat] at ho7; rw [← Ny244.out] at ho7)); have n0_ := Aside0.mk (Kd.R_lower ho7 (below_size (by repeat (first | (with_reducible first | exact HB.out | apply below_alloc | apply pw_below_drewN | apply below_drew1) | exact HB.out)))); have n1_ := Aside0.mk (below_step (by repeat (first | (with_reducible first | exact HB.out | apply below_alloc | apply pw_below_drewN | apply below_drew1) | exact HB.out)) hb); clear HB; have HO246 := n0_; have HB := n1_; clear n0_ n1_; clear hb ho7; obtain ⟨Ao8, co8, eo8⟩ := Kd.R_slice HO246.out; subst eo8) | ((with_reducible refine gate_callee (f := 33) rfl ?_); refine goesL_ (some 14) rfl rfl Try.func33 (by kernel_rfl) rfl #[.slice Ao8 y244.length co8] rfl (by (try simp only [List.map_toArray, List.map_cons, List.map_nil]); first | done | rfl | (simp only [List.length_drop, List.length_take]; rfl)) ?_; (with_reducible refine (affine_small.calls k _ _ y244 true _ ?side1 ?side2 A3.out).mono ?_); (case side1 => repeat (first | exact (Kd.R_reads' HO246.out).2.2 | (with_reducible refine Kd.C_alloc ?_ _) | (with_reducible refine Kd.C_drewN ?_ _) | (with_reducible refine Kd.C_drew ?_))); (case side2 => exact (Kd.R_reads' HO246.out).2.1); rintro e w' ⟨rfl, ⟨nd, rfl⟩⟩; refine ⟨_, rfl, ?_⟩) | ((with_reducible refine gate_callee (f := 45) rfl ?_); refine goesL_ (some 19) rfl rfl Try.func45 (by kernel_rfl) rfl #[.int .i64 a0, .int .i64 a1] rfl (by (try simp only [List.map_toArray, List.map_cons, List.map_nil]); first | done | rfl | (simp only [List.length_drop, List.length_take]; rfl)) ?_; (with_reducible refine (affine_gcd.calls k a0 a1 t248 t249 t250 _ A5.out).mono ?_); rintro e w' ⟨rfl, ⟨nd, rfl⟩⟩; refine ⟨_, rfl, ?_⟩))
    refine bodyPost_ret (results_list (rs := [.tmp 4, .tmp 5, .tmp 6, .tmp 7]) rfl (by simp) (.tmp (.tmp (.tmp (.tmp .nil))))) rfl ?_
    exact ⟨by first | rfl | (simp [errW_none, errW_some] <;> rfl) | (simp [*, errW_none, errW_some] <;> rfl), by repeat (first | (with_reducible first | exact HB.out | apply below_alloc | apply pw_below_drewN | apply below_drew1) | exact HB.out)⟩
  · replace c4 := Bool.eq_false_iff.mpr c4
    subst c4
    have H1 : (some (0, 0, 0, 3)) = some (r1, r2, r3, r4) := by rw [if_neg (show ¬ (false = true) by decide)] at H; exact H
    clear H
    have H := H1
    clear H1
    simp only [Option.some.injEq, Prod.mk.injEq] at H
    obtain ⟨rfl, rfl, rfl, rfl⟩ := H
    go_enter Try.func25, Try.ntmps25
    go_wp2_with (first | ((with_reducible refine gate_dst (N := 13) rfl ?_); refine Kd.R_lit (Kd.int .i64) _ 2 ?hg (N := 13) ?hd (xs := ([a0, a1] : List Int)) (inner := [.int .i64 a0, .int .i64 a1]) (ok := fun _ => True) (okp := fun _ => True) ?hr ?hp (fun _ hk => hk) trivial (Below.refl _ _) (Nat.le_refl _) (by simp) ?_; (case hd => rfl); (case hg => rfl); (case hr => first | (go_simp; done) | (go_simp; rfl)); (case hp => exact (Reps.one (show Kd.M (Kd.int .i64) _ _ _ a0 [.int .i64 a0] from rfl) (Reps.one (show Kd.M (Kd.int .i64) _ _ _ a1 [.int .i64 a1] from rfl) (Reps.none _ _)))); intro v245 w9 ho10 hb hg_ hnew_; clear hg_ hnew_; (first | rw [← Ny244.out] at ho10 | (simp only [Int.reduceToNat] at ho10; rw [← Ny244.out] at ho10)); have n0_ := Aside0.mk (Kd.R_lower ho10 (below_size (by repeat (first | (with_reducible first | exact HB.out | apply below_alloc | apply pw_below_drewN | apply below_drew1) | exact HB.out)))); have n1_ := Aside0.mk (below_step (by repeat (first | (with_reducible first | exact HB.out | apply below_alloc | apply pw_below_drewN | apply below_drew1) | exact HB.out)) hb); clear HB; have HO246 := n0_; have HB := n1_; clear n0_ n1_; clear hb ho10; obtain ⟨Ao11, co11, eo11⟩ := Kd.R_slice HO246.out; subst eo11) | ((with_reducible refine gate_callee (f := 33) rfl ?_); refine goesL_ (some 14) rfl rfl Try.func33 (by kernel_rfl) rfl #[.slice Ao11 y244.length co11] rfl (by (try simp only [List.map_toArray, List.map_cons, List.map_nil]); first | done | rfl | (simp only [List.length_drop, List.length_take]; rfl)) ?_; (with_reducible refine (affine_small.calls k _ _ y244 false _ ?side1 ?side2 A3.out).mono ?_); (case side1 => repeat (first | exact (Kd.R_reads' HO246.out).2.2 | (with_reducible refine Kd.C_alloc ?_ _) | (with_reducible refine Kd.C_drewN ?_ _) | (with_reducible refine Kd.C_drew ?_))); (case side2 => exact (Kd.R_reads' HO246.out).2.1); rintro e w' ⟨rfl, ⟨nd, rfl⟩⟩; refine ⟨_, rfl, ?_⟩))
    refine bodyPost_ret (results_list (rs := [.tmp 4, .tmp 5, .tmp 6, .tmp 7]) rfl (by simp) (.tmp (.tmp (.tmp (.tmp .nil))))) rfl ?_
    exact ⟨by first | rfl | (simp [errW_none, errW_some] <;> rfl) | (simp [*, errW_none, errW_some] <;> rfl), by repeat (first | (with_reducible first | exact HB.out | apply below_alloc | apply pw_below_drewN | apply below_drew1) | exact HB.out)⟩

/-! ### biremeref14_mod: function 35 -/
def biremeref14_mod.f (a0 : Int) (a1 : Int) : Option (Int) := if a1 = 0 then (none) else (some (Int.tmod (wrap64 ((Int.tmod a0 a1) + a1)) a1))
set_option maxHeartbeats 8000000 in
set_option maxRecDepth 100000 in
theorem biremeref14_mod.calls (a0 : Int) (a1 : Int) (r : Int) (w : World) (h : biremeref14_mod.f a0 a1 = some r) :
    Calls Try.prog 35 #[.int .i64 a0, .int .i64 a1] w fun e w' => e = .returned (.int .i64 r) ∧ Drawn0 w w' := by
  have H : (if a1 = 0 then (none) else (some (Int.tmod (wrap64 ((Int.tmod a0 a1) + a1)) a1))) = some r := h
  clear h
  by_cases c3 : a1 = 0
  · rw [if_pos c3] at H
    exact absurd H (by simp)
  · rw [if_neg c3] at H
    have c3b0 : (a1 == 0) = false := beq_eq_false_iff_ne.mpr c3
    have c3b1 : (a1 != 0) = true := bne_iff_ne.mpr c3
    obtain rfl := Option.some.inj H
    go_enter Try.func35, Try.ntmps35
    go_wp2
    go_ret
    exact ⟨by first | rfl | (simp; done) | (simp [*]; done), by repeat (first | exact Drawn0.refl _ | apply Drawn0.step)⟩

/-! ### biremeref14_euclid: function 46 -/
def biremeref14_euclid.f : Nat → Int → Int → Option (Int × Int × Int)
  | 0, _, _ => none
  | k + 1, a0, a1 => if a1 = 0 then (some (a0, 1, 0)) else ((biremeref14_euclid.f k a1 (Int.tmod a0 a1)).bind fun bt251 => (some (bt251.1, bt251.2.2, wrap64 (bt251.2.1 - (wrap64 ((wrap64 (Int.tdiv a0 a1)) * bt251.2.2))))))
theorem biremeref14_euclid.mono_l : ∀ k, (∀ y0 y1, LeO (biremeref14_euclid.f k y0 y1) (biremeref14_euclid.f (k + 1) y0 y1))
  | 0 => fun _ _ r h => by simp [biremeref14_euclid.f] at h
  | k + 1 => by
    have ih0 := biremeref14_euclid.mono_l k
    · intro y0 y1
      unfold biremeref14_euclid.f
      repeat' first
      | (with_reducible exact ih0 _ _)
      | (with_reducible exact LeO.refl _)
      | (with_reducible exact LeO.none _)
      | (with_reducible refine LeO.ite ?_ ?_)
      | (with_reducible refine LeO.bind ?_ (fun _ => ?_))
      | exact ih0 _ _
      | exact LeO.none _
      | refine LeO.ite ?_ ?_
      | refine LeO.bind ?_ (fun _ => ?_)
theorem biremeref14_euclid.mono : ∀ a0 a1 k, LeO (biremeref14_euclid.f k a0 a1) (biremeref14_euclid.f (k + 1) a0 a1) := by
  intro a0 a1 k
  have ih0 := biremeref14_euclid.mono_l k
  exact ih0 a0 a1
set_option maxHeartbeats 8000000 in
set_option maxRecDepth 100000 in
theorem biremeref14_euclid.calls (k : Nat) : ∀ (a0 : Int) (a1 : Int) (r1 : Int) (r2 : Int) (r3 : Int) (w : World) (h : biremeref14_euclid.f k a0 a1 = some (r1, r2, r3)),
    Calls Try.prog 46 #[.int .i64 a0, .int .i64 a1] w fun e w' => e = .returned (.tuple #[.int .i64 r1, .int .i64 r2, .int .i64 r3]) ∧ Drawn0 w w' := by
  induction k using Nat.strongRecOn with
  | _ k ih =>
  intro a0 a1 r1 r2 r3 w h
  cases k with
  | zero => exact absurd h (by simp [biremeref14_euclid.f])
  | succ k =>
  simp only [biremeref14_euclid.f] at h
  have H : (if a1 = 0 then (some (a0, 1, 0)) else ((biremeref14_euclid.f k a1 (Int.tmod a0 a1)).bind fun bt251 => (some (bt251.1, bt251.2.2, wrap64 (bt251.2.1 - (wrap64 ((wrap64 (Int.tdiv a0 a1)) * bt251.2.2))))))) = some (r1, r2, r3) := h
  clear h
  by_cases c3 : a1 = 0
  · rw [if_pos c3] at H
    have c3b0 : (a1 == 0) = true := beq_iff_eq.mpr c3
    have c3b1 : (a1 != 0) = false := bne_eq_false_iff_eq.mpr c3
    clear c3
    simp only [Option.some.injEq, Prod.mk.injEq] at H
    obtain ⟨rfl, rfl, rfl⟩ := H
    go_enter Try.func46, Try.ntmps46
    go_wp2
    repeat (go_quiet (fail); try go_wp2)
    go_ret3
    exact ⟨by first | rfl | (simp; done) | (simp [*]; done), by repeat (first | exact Drawn0.refl _ | apply Drawn0.step)⟩
  · rw [if_neg c3] at H
    have c3b0 : (a1 == 0) = false := beq_eq_false_iff_ne.mpr c3
    have c3b1 : (a1 != 0) = true := bne_iff_ne.mpr c3
    replace H := Option.bind_eq_some_iff.mp H
    obtain ⟨⟨t251, t252, t253⟩, A40, H⟩ := H
    replace H : (some (t251, t253, wrap64 (t252 - (wrap64 ((wrap64 (Int.tdiv a0 a1)) * t253))))) = some (r1, r2, r3) := H
    have A4 := Aside0.mk A40
    clear A40
    simp only [Option.some.injEq, Prod.mk.injEq] at H
    obtain ⟨rfl, rfl, rfl⟩ := H
    go_enter Try.func46, Try.ntmps46
    go_wp2_with (first | (go_at_call 46; (with_reducible refine (ih k (by omega) a1 (Int.tmod a0 a1) t251 t252 t253 _ A4.out).mono ?_); rintro e w' ⟨rfl, ⟨nd, rfl⟩⟩; (try first | exact ⟨rfl, _, World.drewN_drewN _ _ _⟩ | exact ⟨rfl, _, Eq.trans (World.drewN_drewN _ _ _) (congrArg (World.drewN _) (Nat.add_assoc _ _ _))⟩)))
    repeat (go_quiet (first | (go_at_call 46; (with_reducible refine (ih k (by omega) a1 (Int.tmod a0 a1) t251 t252 t253 _ A4.out).mono ?_); rintro e w' ⟨rfl, ⟨nd, rfl⟩⟩; (try first | exact ⟨rfl, _, World.drewN_drewN _ _ _⟩ | exact ⟨rfl, _, Eq.trans (World.drewN_drewN _ _ _) (congrArg (World.drewN _) (Nat.add_assoc _ _ _))⟩))); try go_wp2_with (first | (go_at_call 46; (with_reducible refine (ih k (by omega) a1 (Int.tmod a0 a1) t251 t252 t253 _ A4.out).mono ?_); rintro e w' ⟨rfl, ⟨nd, rfl⟩⟩; (try first | exact ⟨rfl, _, World.drewN_drewN _ _ _⟩ | exact ⟨rfl, _, Eq.trans (World.drewN_drewN _ _ _) (congrArg (World.drewN _) (Nat.add_assoc _ _ _))⟩))))
    go_ret3
    exact ⟨by first | rfl | (simp; done) | (simp [*]; done), by repeat (first | exact Drawn0.refl _ | apply Drawn0.step)⟩

/-! ### biremeref14_abs: function 47 -/
def biremeref14_abs.f (a0 : Int) : Option (Int) := if a0 < 0 then (some (wrap64 (-a0))) else (some a0)
set_option maxHeartbeats 8000000 in
set_option maxRecDepth 100000 in
theorem biremeref14_abs.calls (a0 : Int) (r : Int) (w : World) (h : biremeref14_abs.f a0 = some r) :
    Calls Try.prog 47 #[.int .i64 a0] w fun e w' => e = .returned (.int .i64 r) ∧ Drawn0 w w' := by
  have H : (if a0 < 0 then (some (wrap64 (-a0))) else (some a0)) = some r := h
  clear h
  by_cases c2 : a0 < 0
  · rw [if_pos c2] at H
    have c2b0 : decide (a0 < 0) = true := decide_eq_true c2
    clear c2
    obtain rfl := Option.some.inj H
    go_enter Try.func47, Try.ntmps47
    go_wp2
    go_ret
    exact ⟨by first | rfl | (simp; done) | (simp [*]; done), by repeat (first | exact Drawn0.refl _ | apply Drawn0.step)⟩
  · rw [if_neg c2] at H
    have c2b0 : decide (a0 < 0) = false := decide_eq_false c2
    clear c2
    obtain rfl := Option.some.inj H
    go_enter Try.func47, Try.ntmps47
    go_wp2
    go_ret
    exact ⟨by first | rfl | (simp; done) | (simp [*]; done), by repeat (first | exact Drawn0.refl _ | apply Drawn0.step)⟩

/-! ### biremeref14_Gcd: function 26 -/
mutual
def biremeref14_Gcd.j0 : Nat → Int → Int → Bool → Option (Int × Int × Int)
  | 0, _, _, _ => none
  | k + 1, x0, x1, x10 => if x10 = true then (some (0, 0, 0)) else (if x1 = 0 then (biremeref14_Gcd.j1 k x0 x1 (decide (x0 < 0))) else (biremeref14_Gcd.j1 k x0 x1 false))
def biremeref14_Gcd.j1 : Nat → Int → Int → Bool → Option (Int × Int × Int)
  | 0, _, _, _ => none
  | k + 1, x0, x1, x17 => if x17 = true then (some (wrap64 (-x0), (-1), 0)) else (if x1 = 0 then (some (x0, 1, 0)) else ((biremeref14_abs.f x0).bind fun t254 => ((biremeref14_abs.f x1).bind fun t255 => ((biremeref14_euclid.f k t254 t255).bind fun bt256 => (if x0 < 0 then ((biremeref14_abs.f x1).bind fun t259 => (if bt256.1 = 0 then (none) else ((biremeref14_mod.f (wrap64 (-bt256.2.1)) (wrap64 (Int.tdiv t259 bt256.1))).bind fun t260 => (some (bt256.1, t260, wrap64 (Int.tdiv (wrap64 (bt256.1 - (wrap64 (x0 * t260)))) x1)))))) else ((biremeref14_abs.f x1).bind fun t261 => (if bt256.1 = 0 then (none) else ((biremeref14_mod.f bt256.2.1 (wrap64 (Int.tdiv t261 bt256.1))).bind fun t262 => (some (bt256.1, t262, wrap64 (Int.tdiv (wrap64 (bt256.1 - (wrap64 (x0 * t262)))) x1)))))))))))
end
def biremeref14_Gcd.f (k : Nat) (a0 : Int) (a1 : Int) : Option (Int × Int × Int) := if a0 = 0 then (biremeref14_Gcd.j0 k a0 a1 (a1 == 0)) else (biremeref14_Gcd.j0 k a0 a1 false)

/-! ### biremelaw14_AffineGcds: function 7 -/
def biremelaw14_AffineGcds.f (k : Nat) (a0 : Int) (a1 : Int) : Option (Bool) := (affine_Gcd.f k a0 a1).bind fun bt263 => ((biremeref14_Within.f k (([a0, a1] : List Int))).bind fun t270 => (if t270 = true then ((biremeref14_Gcd.f k a0 a1).bind fun bt271 => (if bt263.1 = bt271.1 then (if bt263.2.1 = bt271.2.1 then (if bt263.2.2.1 = bt271.2.2 then (if bt263.2.2.2 = 0 then ((biremelaw14_alive.f k).bind fun t274 => (some t274)) else (some false)) else (some false)) else (some false)) else (some false))) else (if bt263.1 = 0 then (if bt263.2.1 = 0 then (if bt263.2.2.1 = 0 then (if bt263.2.2.2 = 3 then ((biremelaw14_alive.f k).bind fun t275 => (some t275)) else (some false)) else (some false)) else (some false)) else (some false))))

/-! ### biremelaw14_AffineDivides: function 8 -/
def biremelaw14_AffineDivides.j0 : Nat → Int → Int → Int → Int → Int → Bool → Option (Bool)
  | 0, _, _, _, _, _, _ => none
  | k + 1, x0, x1, x5, x6, x7, x37 => if x37 = true then (if x5 = 0 then (if x6 = 0 then (if x7 = 0 then ((biremelaw14_alive.f k).bind fun t281 => (some t281)) else (some false)) else (some false)) else (some false)) else ((affine_Gcd.f k x1 x0).bind fun bt282 => (if x5 > 0 then (if x5 = 0 then (none) else (if (Int.tmod x0 x5) = 0 then (if (Int.tmod x1 x5) = 0 then (if (wrap64 ((wrap64 (x0 * x6)) + (wrap64 (x1 * x7)))) = x5 then (if bt282.2.2.2 = 0 then (if bt282.1 = x5 then ((biremelaw14_alive.f k).bind fun t286 => (some t286)) else (some false)) else (some false)) else (some false)) else (some false)) else (some false))) else (some false)))
def biremelaw14_AffineDivides.f (k : Nat) (a0 : Int) (a1 : Int) : Option (Bool) := (affine_Gcd.f k a0 a1).bind fun bt276 => (if bt276.2.2.2 = 0 then (if a0 = 0 then (biremelaw14_AffineDivides.j0 k a0 a1 bt276.1 bt276.2.1 bt276.2.2.1 (a1 == 0)) else (biremelaw14_AffineDivides.j0 k a0 a1 bt276.1 bt276.2.1 bt276.2.2.1 false)) else (if bt276.1 = 0 then (if bt276.2.2.2 = 3 then ((biremelaw14_alive.f k).bind fun t280 => (some t280)) else (some false)) else (some false)))

/-! ### biremeref14_Solve: function 17 -/
def biremeref14_Solve.j0 : Nat → Int → Int → Int → Bool → Option (Int × Int × Int × Int × Bool)
  | 0, _, _, _, _ => none
  | k + 1, x0, x1, x2, x17 => if x17 = true then (some (0, 0, 0, 0, (x2 == 0))) else ((biremeref14_Gcd.f k x0 x1).bind fun bt288 => (if bt288.1 = 0 then (none) else (if (Int.tmod x2 bt288.1) = 0 then (if x1 = 0 then (if x0 = 0 then (none) else (some (wrap64 (Int.tdiv x2 x0), 0, 0, 1, true))) else (if (wrap64 (Int.tdiv x1 bt288.1)) < 0 then ((biremeref14_mod.f (wrap64 (Int.tdiv x2 bt288.1)) (wrap64 (-(wrap64 (Int.tdiv x1 bt288.1))))).bind fun t292 => ((biremeref14_mod.f (wrap64 (bt288.2.1 * t292)) (wrap64 (-(wrap64 (Int.tdiv x1 bt288.1))))).bind fun t293 => (some (t293, wrap64 (-(wrap64 (Int.tdiv x1 bt288.1))), wrap64 (Int.tdiv (wrap64 (x2 - (wrap64 (x0 * t293)))) x1), wrap64 (-(wrap64 (Int.tdiv (wrap64 (-x0)) bt288.1))), true)))) else ((biremeref14_mod.f (wrap64 (Int.tdiv x2 bt288.1)) (wrap64 (Int.tdiv x1 bt288.1))).bind fun t294 => ((biremeref14_mod.f (wrap64 (bt288.2.1 * t294)) (wrap64 (Int.tdiv x1 bt288.1))).bind fun t295 => (some (t295, wrap64 (Int.tdiv x1 bt288.1), wrap64 (Int.tdiv (wrap64 (x2 - (wrap64 (x0 * t295)))) x1), wrap64 (Int.tdiv (wrap64 (-x0)) bt288.1), true)))))) else (some (0, 0, 0, 0, false)))))
def biremeref14_Solve.f (k : Nat) (a0 : Int) (a1 : Int) (a2 : Int) : Option (Int × Int × Int × Int × Bool) := if a0 = 0 then (biremeref14_Solve.j0 k a0 a1 a2 (a1 == 0)) else (biremeref14_Solve.j0 k a0 a1 a2 false)

attribute [local go_sem high] eqA23

/-! ### biremelaw14_AffineSolves: function 3 -/
def biremelaw14_AffineSolves.f (k : Nat) (a0 : Int) (a1 : Int) (a2 : Int) : Option (Bool) := (affine_Solve.f k a0 a1 a2).bind fun bt296 => ((biremeref14_Within.f k (([a0, a1, a2] : List Int))).bind fun t306 => (if t306 = true then ((biremeref14_Solve.f k a0 a1 a2).bind fun bt307 => (if (bt296.1 == bt307.1 && (bt296.2.1 == bt307.2.1 && (bt296.2.2.1 == bt307.2.2.1 && (bt296.2.2.2.1 == bt307.2.2.2.1)))) = true then (if (bt296.2.2.2.2.1 == bt307.2.2.2.2) = true then (if bt296.2.2.2.2.2 = 0 then ((biremelaw14_alive.f k).bind fun t313 => (some t313)) else (some false)) else (some false)) else (some false))) else (if (bt296.1 == 0 && (bt296.2.1 == 0 && (bt296.2.2.1 == 0 && (bt296.2.2.2.1 == 0)))) = true then (if bt296.2.2.2.2.1 = true then (some false) else (if bt296.2.2.2.2.2 = 3 then ((biremelaw14_alive.f k).bind fun t314 => (some t314)) else (some false))) else (some false))))

/-! ### biremelaw14_mod: function 24 -/
def biremelaw14_mod.f (a0 : Int) (a1 : Int) : Option (Int) := if a1 = 0 then (none) else (some (wrap64 (Int.tmod (IntKind.u64.wrap (a0)) a1)))
set_option maxHeartbeats 8000000 in
set_option maxRecDepth 100000 in
theorem biremelaw14_mod.calls (a0 : Int) (a1 : Int) (r : Int) (w : World) (h : biremelaw14_mod.f a0 a1 = some r) :
    Calls Try.prog 24 #[.int .i64 a0, .int .u64 a1] w fun e w' => e = .returned (.int .i64 r) ∧ Drawn0 w w' := by
  have H : (if a1 = 0 then (none) else (some (wrap64 (Int.tmod (IntKind.u64.wrap (a0)) a1)))) = some r := h
  clear h
  by_cases c3 : a1 = 0
  · rw [if_pos c3] at H
    exact absurd H (by simp)
  · rw [if_neg c3] at H
    have c3b0 : (a1 == 0) = false := beq_eq_false_iff_ne.mpr c3
    have c3b1 : (a1 != 0) = true := bne_iff_ne.mpr c3
    obtain rfl := Option.some.inj H
    go_enter Try.func24, Try.ntmps24
    go_wp2
    go_ret
    exact ⟨by first | rfl | (simp; done) | (simp [*]; done), by repeat (first | exact Drawn0.refl _ | apply Drawn0.step)⟩

/-! ### biremelaw14_term: function 23 -/
def biremelaw14_term.f (a0 : Int) : Option (Int) := (biremelaw14_mod.f a0 8001).bind fun t315 => (some (wrap64 (t315 - 4000)))
set_option maxHeartbeats 8000000 in
set_option maxRecDepth 100000 in
theorem biremelaw14_term.calls (a0 : Int) (r : Int) (w : World) (h : biremelaw14_term.f a0 = some r) :
    Calls Try.prog 23 #[.int .i64 a0] w fun e w' => e = .returned (.int .i64 r) ∧ Drawn0 w w' := by
  have H : ((biremelaw14_mod.f a0 8001).bind fun t315 => (some (wrap64 (t315 - 4000)))) = some r := h
  clear h
  replace H := Option.bind_eq_some_iff.mp H
  obtain ⟨t315, A20, H⟩ := H
  replace H : (some (wrap64 (t315 - 4000))) = some r := H
  have A2 := Aside0.mk A20
  clear A20
  obtain rfl := Option.some.inj H
  go_enter Try.func23, Try.ntmps23
  go_wp2_with (first | ((with_reducible refine gate_callee (f := 24) rfl ?_); refine goesL_ (some 4) rfl rfl Try.func24 (by kernel_rfl) rfl #[.int .i64 a0, .int .u64 8001] rfl (by (try simp only [List.map_toArray, List.map_cons, List.map_nil]); first | done | rfl | (simp only [List.length_drop, List.length_take]; rfl)) ?_; (with_reducible refine (biremelaw14_mod.calls a0 8001 t315 _ A2.out).mono ?_); rintro e w' ⟨rfl, ⟨nd, rfl⟩⟩; refine ⟨_, rfl, ?_⟩))
  go_ret
  exact ⟨by first | rfl | (simp; done) | (simp [*]; done), by repeat (first | exact Drawn0.refl _ | apply Drawn0.step)⟩

/-! ### biremelaw14_AffineAll: function 5 -/
mutual
def biremelaw14_AffineAll.j0 : Nat → Int → Int → Int → Int → Int → Int → Bool → Int → Int → Int → Int → Option (Bool)
  | 0, _, _, _, _, _, _, _, _, _, _, _ => none
  | k + 1, x0, x1, x2, x3, x4, x11, x46, x328000, x328001, x328002, x328003 => if x46 = true then (some false) else (if x0 = 0 then (biremelaw14_AffineAll.j1 k x0 x1 x2 x3 x4 x11 (x1 == 0) x328000 x328001 x328002 x328003) else (biremelaw14_AffineAll.j1 k x0 x1 x2 x3 x4 x11 false x328000 x328001 x328002 x328003))
def biremelaw14_AffineAll.j1 : Nat → Int → Int → Int → Int → Int → Int → Bool → Int → Int → Int → Int → Option (Bool)
  | 0, _, _, _, _, _, _, _, _, _, _, _ => none
  | k + 1, x0, x1, x2, x3, x4, x11, x52, x328000, x328001, x328002, x328003 => if x52 = true then (if (x328000 == 0 && (x328001 == 0 && (x328002 == 0 && (x328003 == 0)))) = true then ((biremelaw14_alive.f k).bind fun t328 => (some t328)) else (some false)) else (if (wrap64 ((wrap64 (x0 * (wrap64 (x328000 + (wrap64 (x328001 * x4)))))) + (wrap64 (x1 * (wrap64 (x328002 + (wrap64 (x328003 * x4)))))))) = x11 then (if x328001 = 0 then (if x328003 = 0 then (if (wrap64 (x328000 + (wrap64 (x328001 * 0)))) = x2 then (if (wrap64 (x328002 + (wrap64 (x328003 * 0)))) = x3 then ((biremelaw14_alive.f k).bind fun t329 => (some t329)) else (some false)) else (some false)) else (if (wrap64 (x328000 + (wrap64 (x328001 * (wrap64 (Int.tdiv (wrap64 (x3 - x328002)) x328003)))))) = x2 then (if (wrap64 (x328002 + (wrap64 (x328003 * (wrap64 (Int.tdiv (wrap64 (x3 - x328002)) x328003)))))) = x3 then ((biremelaw14_alive.f k).bind fun t330 => (some t330)) else (some false)) else (some false))) else (if (wrap64 (x328000 + (wrap64 (x328001 * (wrap64 (Int.tdiv (wrap64 (x2 - x328000)) x328001)))))) = x2 then (if (wrap64 (x328002 + (wrap64 (x328003 * (wrap64 (Int.tdiv (wrap64 (x2 - x328000)) x328001)))))) = x3 then (if x328000 ≥ 0 then (if x328000 < x328001 then ((biremelaw14_alive.f k).bind fun t331 => (some t331)) else (some false)) else (some false)) else (some false)) else (some false))) else (some false))
end
def biremelaw14_AffineAll.f (k : Nat) (a0 : Int) (a1 : Int) (a2 : Int) (a3 : Int) (a4 : Int) : Option (Bool) := (biremelaw14_term.f a0).bind fun t316 => ((biremelaw14_term.f a1).bind fun t317 => ((biremelaw14_term.f a2).bind fun t318 => ((biremelaw14_term.f a3).bind fun t319 => ((biremelaw14_term.f a4).bind fun t320 => ((affine_Solve.f k t316 t317 (wrap64 ((wrap64 (t316 * t318)) + (wrap64 (t317 * t319))))).bind fun bt321 => (if bt321.2.2.2.2.2 = 0 then (biremelaw14_AffineAll.j0 k t316 t317 t318 t319 t320 (wrap64 ((wrap64 (t316 * t318)) + (wrap64 (t317 * t319)))) (!bt321.2.2.2.2.1) bt321.1 bt321.2.1 bt321.2.2.1 bt321.2.2.2.1) else (biremelaw14_AffineAll.j0 k t316 t317 t318 t319 t320 (wrap64 ((wrap64 (t316 * t318)) + (wrap64 (t317 * t319)))) true bt321.1 bt321.2.1 bt321.2.2.1 bt321.2.2.2.1)))))))

/-! ### biremelaw14_AffineNone: function 6 -/
mutual
def biremelaw14_AffineNone.l0 : Nat → Int → Int → Int → Bool → Bool → Int → Option (Bool)
  | 0, _, _, _, _, _, _ => none
  | k + 1, x0, x1, x2, x8, x10, x11 => if x11 ≤ 40 then (biremelaw14_AffineNone.l1 k x0 x1 x2 x8 x10 x11 (-40)) else (if x8 = true then ((biremelaw14_alive.f k).bind fun t342 => (some t342)) else (if x10 = true then (some false) else ((biremelaw14_alive.f k).bind fun t343 => (some t343))))
def biremelaw14_AffineNone.l1 : Nat → Int → Int → Int → Bool → Bool → Int → Int → Option (Bool)
  | 0, _, _, _, _, _, _, _ => none
  | k + 1, x0, x1, x2, x8, x10, x11, x12 => if x12 ≤ 40 then (if x10 = true then (biremelaw14_AffineNone.l1 k x0 x1 x2 x8 true x11 (wrap64 (x12 + 1))) else (biremelaw14_AffineNone.l1 k x0 x1 x2 x8 ((wrap64 ((wrap64 (x0 * x11)) + (wrap64 (x1 * x12)))) == x2) x11 (wrap64 (x12 + 1)))) else (biremelaw14_AffineNone.l0 k x0 x1 x2 x8 x10 (wrap64 (x11 + 1)))
end
def biremelaw14_AffineNone.f (k : Nat) (a0 : Int) (a1 : Int) (a2 : Int) : Option (Bool) := (biremelaw14_mod.f a0 61).bind fun t332 => ((biremelaw14_mod.f a1 61).bind fun t333 => ((biremelaw14_mod.f a2 61).bind fun t334 => ((affine_Solve.f k (wrap64 (t332 - 30)) (wrap64 (t333 - 30)) (wrap64 (t334 - 30))).bind fun bt335 => (if bt335.2.2.2.2.2 = 0 then (biremelaw14_AffineNone.l0 k (wrap64 (t332 - 30)) (wrap64 (t333 - 30)) (wrap64 (t334 - 30)) bt335.2.2.2.2.1 false (-40)) else (some false)))))

/-! ### affine_Count: function 28 -/
mutual
def affine_Count.j0 : Nat → Int → Int → Int → Bool → Int → Int → Int → Int → Option (Int × Int)
  | 0, _, _, _, _, _, _, _, _ => none
  | k + 1, x2, x3, x10, x28, x345000, x345001, x346000, x346001 => if x28 = true then (affine_Count.j1 k x2 x3 2 x345000 x345001 x346000 x346001) else (affine_Count.j1 k x2 x3 x10 x345000 x345001 x346000 x346001)
def affine_Count.j1 : Nat → Int → Int → Int → Int → Int → Int → Int → Option (Int × Int)
  | 0, _, _, _, _, _, _, _ => none
  | k + 1, x2, x3, x10, x345000, x345001, x346000, x346001 => if x10 = 0 then ((affine_meet.f k x345000 x345001 x346000 x346001 x2 x3).bind fun bt350 => (if bt350.2.2.2.2.2.2.2 = true then (if bt350.2.2.2.2.2.2.1 = true then (some (wrap64 (x2 * x3), 0)) else (some (wrap64 ((wrap64 (bt350.2.2.2.2.2.1 - bt350.2.2.2.2.1)) + 1), 0))) else (some (0, 0)))) else (some (0, x10))
end
def affine_Count.f (k : Nat) (a0_0 : Int) (a0_1 : Int) (a1_0 : Int) (a1_1 : Int) (a2 : Int) (a3 : Int) : Option (Int × Int) := (affine_lines.f k a0_0 a0_1 a1_0 a1_1 (([a2, a3] : List Int))).bind fun t349 => (if t349 = 0 then (if a2 < 0 then (affine_Count.j0 k a2 a3 t349 true a0_0 a0_1 a1_0 a1_1) else (affine_Count.j0 k a2 a3 t349 (decide (a3 < 0)) a0_0 a0_1 a1_0 a1_1)) else (affine_Count.j0 k a2 a3 t349 false a0_0 a0_1 a1_0 a1_1))

/-! ### biremelaw14_AffineSides: function 11 -/
def biremelaw14_AffineSides.j0 : Nat → Int → Bool → Int → Int → Int → Int → Int → Int → Option (Bool)
  | 0, _, _, _, _, _, _, _, _ => none
  | k + 1, x4, x95, x360000, x360001, x360002, x360003, x360004, x360005 => if x95 = true then (some false) else (if x4 = 0 then ((affine_Ahead.f k x360000 x360001 x360002 x360003 x360004 (wrap64 (-x360004))).bind fun bt372 => ((affine_Behind.f k x360002 x360003 x360000 x360001 x360004).bind fun bt375 => (if bt372.2.2 = 0 then (if bt375.2.2 = 0 then (if (bt372.2.1 == bt375.2.1) = true then (if bt375.1 = (wrap64 (-bt372.1)) then ((biremelaw14_alive.f k).bind fun t378 => (some t378)) else (some false)) else (some false)) else (some false)) else (some false)))) else ((biremelaw14_alive.f k).bind fun t379 => (some t379)))
def biremelaw14_AffineSides.f (k : Nat) (a0_0 : Int) (a0_1 : Int) (a0_2 : Int) (a0_3 : Int) (a0_4 : Int) (a0_5 : Int) : Option (Bool) := (affine_Count.f k a0_0 a0_1 a0_2 a0_3 a0_4 a0_5).bind fun bt360 => ((affine_Count.f k a0_2 a0_3 a0_0 a0_1 a0_5 a0_4).bind fun bt362 => ((affine_Meet.f k a0_0 a0_1 a0_2 a0_3 a0_4 a0_5).bind fun bt364 => ((affine_Meet.f k a0_2 a0_3 a0_0 a0_1 a0_5 a0_4).bind fun bt368 => (if bt360.1 = bt362.1 then (if bt360.2 = bt362.2 then (if bt360.2 = bt364.2.2.2 then (if bt360.2 = bt368.2.2.2 then (biremelaw14_AffineSides.j0 k bt360.2 (bt364.2.2.1 != bt368.2.2.1) a0_0 a0_1 a0_2 a0_3 a0_4 a0_5) else (biremelaw14_AffineSides.j0 k bt360.2 true a0_0 a0_1 a0_2 a0_3 a0_4 a0_5)) else (biremelaw14_AffineSides.j0 k bt360.2 true a0_0 a0_1 a0_2 a0_3 a0_4 a0_5)) else (biremelaw14_AffineSides.j0 k bt360.2 true a0_0 a0_1 a0_2 a0_3 a0_4 a0_5)) else (biremelaw14_AffineSides.j0 k bt360.2 true a0_0 a0_1 a0_2 a0_3 a0_4 a0_5)))))

/-! ### biremelaw14_AffineMoved: function 12 -/
def biremelaw14_AffineMoved.j0 : Nat → Int → Int → Bool → Int → Int → Int → Int → Int → Int → Option (Bool)
  | 0, _, _, _, _, _, _, _, _, _ => none
  | k + 1, x1, x2, x38, x381000, x381001, x381002, x381003, x381004, x381005 => if x38 = true then ((biremelaw14_alive.f k).bind fun t381 => (some t381)) else ((affine_Meet.f k x381000 x381001 x381002 x381003 x381004 x381005).bind fun bt384 => (if bt384.2.2.2 = 0 then ((affine_Meet.f k (wrap64 (x381000 + x1)) x381001 (wrap64 (x381002 + x1)) x381003 x381004 x381005).bind fun bt389 => (if bt389.2.2.2 = 0 then ((affine_Count.f k x381000 x381001 x381002 x381003 x381004 x381005).bind fun bt394 => ((affine_Count.f k (wrap64 (x381000 + x1)) x381001 (wrap64 (x381002 + x1)) x381003 x381004 x381005).bind fun bt396 => ((affine_Ahead.f k x381000 x381001 x381002 x381003 x381004 x2).bind fun bt398 => ((affine_Ahead.f k (wrap64 (x381000 + x1)) x381001 (wrap64 (x381002 + x1)) x381003 x381004 x2).bind fun bt401 => ((affine_Behind.f k x381000 x381001 x381002 x381003 x381004).bind fun bt404 => ((affine_Behind.f k (wrap64 (x381000 + x1)) x381001 (wrap64 (x381002 + x1)) x381003 x381004).bind fun bt407 => (if bt384.1 = bt389.1 then (if bt384.2.1 = bt389.2.1 then (if (bt384.2.2.1 == bt389.2.2.1) = true then (if bt394.1 = bt396.1 then (if bt394.2 = bt396.2 then (if bt398.1 = bt401.1 then (if (bt398.2.1 == bt401.2.1) = true then (if bt398.2.2 = bt401.2.2 then (if bt404.1 = bt407.1 then (if (bt404.2.1 == bt407.2.1) = true then (if bt404.2.2 = bt407.2.2 then ((biremelaw14_alive.f k).bind fun t410 => (some t410)) else (some false)) else (some false)) else (some false)) else (some false)) else (some false)) else (some false)) else (some false)) else (some false)) else (some false)) else (some false)) else (some false)))))))) else (if bt389.2.2.2 = 3 then ((biremelaw14_alive.f k).bind fun t393 => (some t393)) else (some false)))) else ((biremelaw14_alive.f k).bind fun t388 => (some t388))))
def biremelaw14_AffineMoved.f (k : Nat) (a0_0 : Int) (a0_1 : Int) (a0_2 : Int) (a0_3 : Int) (a0_4 : Int) (a0_5 : Int) (a1 : Int) (a2 : Int) : Option (Bool) := if a1 < (-2147483648) then (biremelaw14_AffineMoved.j0 k a1 a2 true a0_0 a0_1 a0_2 a0_3 a0_4 a0_5) else (biremelaw14_AffineMoved.j0 k a1 a2 (decide (a1 > 2147483648)) a0_0 a0_1 a0_2 a0_3 a0_4 a0_5)

/-! ### biremelaw14_at: function 32 -/
def biremelaw14_at.f (a0_0 : Int) (a0_1 : Int) (a1 : Int) : Option (Int) := some (wrap64 (a0_0 + (wrap64 (a0_1 * a1))))
set_option maxHeartbeats 8000000 in
set_option maxRecDepth 100000 in
theorem biremelaw14_at.calls (a0_0 : Int) (a0_1 : Int) (a1 : Int) (r : Int) (w : World) (h : biremelaw14_at.f a0_0 a0_1 a1 = some r) :
    Calls Try.prog 32 #[.agg #[.int .i64 a0_0, .int .i64 a0_1], .int .i64 a1] w fun e w' => e = .returned (.int .i64 r) ∧ Below w.heap.size w w' := by
  have hu33 := Try.underlying33
  have HB := Aside0.mk (Below.refl w.heap.size w)
  have H : (some (wrap64 (a0_0 + (wrap64 (a0_1 * a1))))) = some r := h
  clear h
  obtain rfl := Option.some.inj H
  go_enter Try.func32, Try.ntmps32
  go_wp2_with (first | ((with_reducible refine gate_dst (N := 2) rfl ?_); refine box_event ?hg (N := 2) ?hd (cs := #[.int .i64 a0_0, .int .i64 a0_1]) (t := 33) ?hr ?_; (case hd => rfl); (case hg => rfl); (case hr => first | (go_simp; done) | (go_simp; rfl)); intro gb411 hg w3 hbox hb; have n0_ := Aside0.mk (below_step (by repeat (first | (with_reducible first | exact HB.out | apply below_alloc | apply pw_below_drewN | apply below_drew1) | exact HB.out)) hb); have n1_ := Aside0.mk (hbox); have n2_ := Aside0.mk ((by rw [hg]; exact (below_size (by repeat (first | (with_reducible first | exact HB.out | apply below_alloc | apply pw_below_drewN | apply below_drew1) | exact HB.out))) : w.heap.size ≤ gb411)); have n3_ := Aside0.mk ((by rw [hg]; exact (below_size (by repeat (first | (with_reducible first | exact HB.out | apply below_alloc | apply pw_below_drewN | apply below_drew1) | exact HB.out))) : w.heap.size ≤ gb411)); clear HB; have HB := n0_; have BK411 := n1_; have GW411 := n2_; have GE411 := n3_; clear n0_ n1_ n2_ n3_; clear hb hbox hg; have hcz4_0 : w3.cell? ⟨gb411, 0, none⟩ = some (.int .i64 a0_0) := (blk_cell BK411.out 0).trans rfl; have hcz4_1 : w3.cell? ⟨gb411, 1, none⟩ = some (.int .i64 a0_1) := (blk_cell BK411.out 1).trans rfl; have hfz4_0 := blk_frozen BK411.out 0; have hfz4_1 := blk_frozen BK411.out 1))
  go_ret
  exact ⟨by first | rfl | (simp [errW_none, errW_some] <;> rfl) | (simp [*, errW_none, errW_some] <;> rfl), by repeat (first | (with_reducible first | exact HB.out | apply below_alloc | apply pw_below_drewN | apply below_drew1 | refine below_set ?_ GE411.out) | exact HB.out)⟩

/-! ### biremelaw14_AffineCounts: function 13 -/
mutual
def biremelaw14_AffineCounts.j0 : Nat → Int → Int → Int → Int → Bool → Int → Bool → Int → Int → Int → Int → Int → Int → Option (Bool)
  | 0, _, _, _, _, _, _, _, _, _, _, _, _, _ => none
  | k + 1, x3, x4, x5, x6, x7, x8, x49, x413000, x413001, x413002, x413003, x413004, x413005 => if x49 = true then (if x4 = x8 then ((biremelaw14_alive.f k).bind fun t419 => (some t419)) else (some false)) else ((affine_Ahead.f k x413000 x413001 x413002 x413003 x413004 0).bind fun bt420 => ((affine_Ahead.f k x413002 x413003 x413000 x413001 x413004 0).bind fun bt423 => ((affine_Behind.f k x413000 x413001 x413002 x413003 x413004).bind fun bt426 => (if bt420.2.2 = 0 then (if bt423.2.2 = 0 then (if bt426.2.2 = 0 then (if ((x3 != 0) != x7) = true then (biremelaw14_AffineCounts.j1 k x5 x6 x7 bt420.1 bt420.2.1 bt423.1 bt423.2.1 bt426.1 true x413000 x413001 x413002 x413003 x413004 x413005) else (if bt420.2.1 = true then (if (x7 != true) = true then (biremelaw14_AffineCounts.j1 k x5 x6 x7 bt420.1 bt420.2.1 bt423.1 bt423.2.1 bt426.1 true x413000 x413001 x413002 x413003 x413004 x413005) else (if (bt426.2.1 != x7) = true then (biremelaw14_AffineCounts.j1 k x5 x6 x7 bt420.1 bt420.2.1 bt423.1 bt423.2.1 bt426.1 true x413000 x413001 x413002 x413003 x413004 x413005) else (biremelaw14_AffineCounts.j1 k x5 x6 x7 bt420.1 bt420.2.1 bt423.1 bt423.2.1 bt426.1 (decide (x3 < 0)) x413000 x413001 x413002 x413003 x413004 x413005))) else (if (x7 != bt423.2.1) = true then (biremelaw14_AffineCounts.j1 k x5 x6 x7 bt420.1 bt420.2.1 bt423.1 bt423.2.1 bt426.1 true x413000 x413001 x413002 x413003 x413004 x413005) else (if (bt426.2.1 != x7) = true then (biremelaw14_AffineCounts.j1 k x5 x6 x7 bt420.1 bt420.2.1 bt423.1 bt423.2.1 bt426.1 true x413000 x413001 x413002 x413003 x413004 x413005) else (biremelaw14_AffineCounts.j1 k x5 x6 x7 bt420.1 bt420.2.1 bt423.1 bt423.2.1 bt426.1 (decide (x3 < 0)) x413000 x413001 x413002 x413003 x413004 x413005))))) else (biremelaw14_AffineCounts.j1 k x5 x6 x7 bt420.1 bt420.2.1 bt423.1 bt423.2.1 bt426.1 true x413000 x413001 x413002 x413003 x413004 x413005)) else (biremelaw14_AffineCounts.j1 k x5 x6 x7 bt420.1 bt420.2.1 bt423.1 bt423.2.1 bt426.1 true x413000 x413001 x413002 x413003 x413004 x413005)) else (biremelaw14_AffineCounts.j1 k x5 x6 x7 bt420.1 bt420.2.1 bt423.1 bt423.2.1 bt426.1 true x413000 x413001 x413002 x413003 x413004 x413005)))))
def biremelaw14_AffineCounts.j1 : Nat → Int → Int → Bool → Int → Bool → Int → Bool → Int → Bool → Int → Int → Int → Int → Int → Int → Option (Bool)
  | 0, _, _, _, _, _, _, _, _, _, _, _, _, _, _, _ => none
  | k + 1, x5, x6, x7, x9, x10, x12, x13, x15, x121, x413000, x413001, x413002, x413003, x413004, x413005 => if x121 = true then (some false) else (if x7 = true then ((biremelaw14_at.f x413000 x413001 x5).bind fun t429 => ((biremelaw14_at.f x413002 x413003 x6).bind fun t430 => (if t429 = t430 then (if x5 < 0 then (some false) else (if x5 ≥ x413004 then (some false) else (if x6 < 0 then (some false) else (if x6 ≥ x413004 then (some false) else (if x10 = true then (if x9 ≥ 0 then (if x9 ≤ x15 then (if x9 < x413004 then (if x13 = true then (if x12 ≥ 0 then (if x12 < x413004 then (if (wrap64 (-x12)) ≤ x15 then ((biremelaw14_alive.f k).bind fun t431 => (some t431)) else (some false)) else (some false)) else (some false)) else ((biremelaw14_alive.f k).bind fun t432 => (some t432))) else (some false)) else (some false)) else (some false)) else (if x13 = true then (if x12 ≥ 0 then (if x12 < x413004 then (if (wrap64 (-x12)) ≤ x15 then ((biremelaw14_alive.f k).bind fun t433 => (some t433)) else (some false)) else (some false)) else (some false)) else ((biremelaw14_alive.f k).bind fun t434 => (some t434)))))))) else (some false)))) else (if x10 = true then (if x9 ≥ 0 then (if x9 ≤ x15 then (if x9 < x413004 then (if x13 = true then (if x12 ≥ 0 then (if x12 < x413004 then (if (wrap64 (-x12)) ≤ x15 then ((biremelaw14_alive.f k).bind fun t435 => (some t435)) else (some false)) else (some false)) else (some false)) else ((biremelaw14_alive.f k).bind fun t436 => (some t436))) else (some false)) else (some false)) else (some false)) else (if x13 = true then (if x12 ≥ 0 then (if x12 < x413004 then (if (wrap64 (-x12)) ≤ x15 then ((biremelaw14_alive.f k).bind fun t437 => (some t437)) else (some false)) else (some false)) else (some false)) else ((biremelaw14_alive.f k).bind fun t438 => (some t438)))))
end
def biremelaw14_AffineCounts.f (k : Nat) (a0_0 : Int) (a0_1 : Int) (a0_2 : Int) (a0_3 : Int) (a0_4 : Int) (a0_5 : Int) : Option (Bool) := (affine_Count.f k a0_0 a0_1 a0_2 a0_3 a0_4 a0_4).bind fun bt413 => ((affine_Meet.f k a0_0 a0_1 a0_2 a0_3 a0_4 a0_4).bind fun bt415 => (if bt413.2 = 0 then (biremelaw14_AffineCounts.j0 k bt413.1 bt413.2 bt415.1 bt415.2.1 bt415.2.2.1 bt415.2.2.2 (bt415.2.2.2 != 0) a0_0 a0_1 a0_2 a0_3 a0_4 a0_5) else (biremelaw14_AffineCounts.j0 k bt413.1 bt413.2 bt415.1 bt415.2.1 bt415.2.2.1 bt415.2.2.2 true a0_0 a0_1 a0_2 a0_3 a0_4 a0_5)))

/-! ### biremeref14_Line: function 20 -/
def biremeref14_Line.f (k : Nat) (a0_0 : Int) (a0_1 : Int) : Option (Bool) := (biremeref14_Within.f k (([a0_0, a0_1] : List Int))).bind fun t443 => (some t443)
theorem biremeref14_Line.mono : ∀ a0 a1 k, LeO (biremeref14_Line.f k a0 a1) (biremeref14_Line.f (k + 1) a0 a1) := by
  intro a0 a1 k
  unfold biremeref14_Line.f
  repeat' first
      | (with_reducible exact biremeref14_Within.mono _ _)
      | (with_reducible exact LeO.refl _)
      | (with_reducible exact LeO.none _)
      | (with_reducible refine LeO.ite ?_ ?_)
      | (with_reducible refine LeO.bind ?_ (fun _ => ?_))
      | exact biremeref14_Within.mono _ _
      | exact LeO.none _
      | refine LeO.ite ?_ ?_
      | refine LeO.bind ?_ (fun _ => ?_)
set_option maxHeartbeats 8000000 in
set_option maxRecDepth 100000 in
theorem biremeref14_Line.calls (k : Nat) (a0_0 : Int) (a0_1 : Int) (r : Bool) (w : World) (h : biremeref14_Line.f k a0_0 a0_1 = some r) :
    Calls Try.prog 20 #[.agg #[.int .i64 a0_0, .int .i64 a0_1]] w fun e w' => e = .returned (.bool r) ∧ Below w.heap.size w w' := by
  have hu33 := Try.underlying33
  have HB := Aside0.mk (Below.refl w.heap.size w)
  have H : ((biremeref14_Within.f k (([a0_0, a0_1] : List Int))).bind fun t443 => (some t443)) = some r := h
  clear h
  obtain ⟨y440, hy440⟩ : ∃ y_ : List Int, y_ = (([a0_0, a0_1] : List Int)) := ⟨_, rfl⟩
  replace H : ((biremeref14_Within.f k y440).bind fun t443 => (some t443)) = some r := by first | (rw [hy440]; with_reducible exact H) | (have H2_ := (Option.bind_some _ _).symm.trans H; rw [hy440]; with_reducible exact H2_) | (have H2_ := (Option.bind_some _ _).symm.trans H; with_reducible exact H2_) | with_reducible exact H | (rw [hy440]; exact H) | exact H
  have Ny440 := Aside0.mk hy440
  clear hy440
  replace H := Option.bind_eq_some_iff.mp H
  obtain ⟨t443, A20, H⟩ := H
  replace H : (some t443) = some r := H
  have A2 := Aside0.mk A20
  clear A20
  obtain rfl := Option.some.inj H
  go_enter Try.func20, Try.ntmps20
  go_wp2_with (first | ((with_reducible refine gate_dst (N := 1) rfl ?_); refine box_event ?hg (N := 1) ?hd (cs := #[.int .i64 a0_0, .int .i64 a0_1]) (t := 33) ?hr ?_; (case hd => rfl); (case hg => rfl); (case hr => first | (go_simp; done) | (go_simp; rfl)); intro gb439 hg w3 hbox hb; have n0_ := Aside0.mk (below_step (by repeat (first | (with_reducible first | exact HB.out | apply below_alloc | apply pw_below_drewN | apply below_drew1) | exact HB.out)) hb); have n1_ := Aside0.mk (hbox); have n2_ := Aside0.mk ((by rw [hg]; exact (below_size (by repeat (first | (with_reducible first | exact HB.out | apply below_alloc | apply pw_below_drewN | apply below_drew1) | exact HB.out))) : w.heap.size ≤ gb439)); have n3_ := Aside0.mk ((by rw [hg]; exact (below_size (by repeat (first | (with_reducible first | exact HB.out | apply below_alloc | apply pw_below_drewN | apply below_drew1) | exact HB.out))) : w.heap.size ≤ gb439)); clear HB; have HB := n0_; have BK439 := n1_; have GW439 := n2_; have GE439 := n3_; clear n0_ n1_ n2_ n3_; clear hb hbox hg; have hcz4_0 : w3.cell? ⟨gb439, 0, none⟩ = some (.int .i64 a0_0) := (blk_cell BK439.out 0).trans rfl; have hcz4_1 : w3.cell? ⟨gb439, 1, none⟩ = some (.int .i64 a0_1) := (blk_cell BK439.out 1).trans rfl; have hfz4_0 := blk_frozen BK439.out 0; have hfz4_1 := blk_frozen BK439.out 1) | ((with_reducible refine gate_dst (N := 7) rfl ?_); refine Kd.R_lit (Kd.int .i64) _ 2 ?hg (N := 7) ?hd (xs := ([a0_0, a0_1] : List Int)) (inner := [.int .i64 a0_0, .int .i64 a0_1]) (ok := fun _ => True) (okp := fun _ => True) ?hr ?hp (fun _ hk => hk) trivial (Below.refl _ _) (Nat.le_refl _) (by simp) ?_; (case hd => rfl); (case hg => rfl); (case hr => first | (go_simp; done) | (go_simp; rfl)); (case hp => exact (Reps.one (show Kd.M (Kd.int .i64) _ _ _ a0_0 [.int .i64 a0_0] from rfl) (Reps.one (show Kd.M (Kd.int .i64) _ _ _ a0_1 [.int .i64 a0_1] from rfl) (Reps.none _ _)))); intro v441 w5 ho6 hb hg_ hnew_; clear hg_ hnew_; (first | rw [← Ny440.out] at ho6 | (simp only [Int.reduceToNat] at ho6; rw [← Ny440.out] at ho6)); have n0_ := Aside0.mk (Kd.R_lower ho6 (below_size (by repeat (first | (with_reducible first | exact HB.out | apply below_alloc | apply pw_below_drewN | apply below_drew1 | refine below_set ?_ GE439.out) | exact HB.out)))); have n1_ := Aside0.mk (blk_below (g := gb439) (o := .cells #[.int .i64 a0_0, .int .i64 a0_1] 33 (0, 0)) (by (with_reducible repeat (first | refine blk_drewN ?_ _ | refine blk_drew ?_ | refine blk_alloc ?_ _)); exact BK439.out) hb); have n2_ := Aside0.mk (below_step (by repeat (first | (with_reducible first | exact HB.out | apply below_alloc | apply pw_below_drewN | apply below_drew1 | refine below_set ?_ GE439.out) | exact HB.out)) hb); clear BK439; clear HB; have HO442 := n0_; have BK439 := n1_; have HB := n2_; clear n0_ n1_ n2_; clear hb ho6; obtain ⟨Ao7, co7, eo7⟩ := Kd.R_slice HO442.out; subst eo7) | ((with_reducible refine gate_callee (f := 15) rfl ?_); refine goesL_ (some 8) rfl rfl Try.func15 (by kernel_rfl) rfl #[.slice Ao7 y440.length co7] rfl (by (try simp only [List.map_toArray, List.map_cons, List.map_nil]); first | done | rfl | (simp only [List.length_drop, List.length_take]; rfl)) ?_; (with_reducible refine (biremeref14_Within.calls k _ _ y440 t443 _ ?side1 ?side2 A2.out).mono ?_); (case side1 => repeat (first | exact (Kd.R_reads' HO442.out).2.2 | (with_reducible refine Kd.C_alloc ?_ _) | (with_reducible refine Kd.C_drewN ?_ _) | (with_reducible refine Kd.C_drew ?_))); (case side2 => exact (Kd.R_reads' HO442.out).2.1); rintro e w' ⟨rfl, ⟨nd, rfl⟩⟩; refine ⟨_, rfl, ?_⟩))
  go_ret
  exact ⟨by first | rfl | (simp [errW_none, errW_some] <;> rfl) | (simp [*, errW_none, errW_some] <;> rfl), by repeat (first | (with_reducible first | exact HB.out | apply below_alloc | apply pw_below_drewN | apply below_drew1 | refine below_set ?_ GE439.out) | exact HB.out)⟩

/-! ### biremeref14_down: function 44 -/
def biremeref14_down.f (a0 : Int) (a1 : Int) : Option (Int) := (biremeref14_mod.f a0 a1).bind fun t444 => (if a1 = 0 then (none) else (some (wrap64 (Int.tdiv (wrap64 (a0 - t444)) a1))))
set_option maxHeartbeats 8000000 in
set_option maxRecDepth 100000 in
theorem biremeref14_down.calls (a0 : Int) (a1 : Int) (r : Int) (w : World) (h : biremeref14_down.f a0 a1 = some r) :
    Calls Try.prog 44 #[.int .i64 a0, .int .i64 a1] w fun e w' => e = .returned (.int .i64 r) ∧ Drawn0 w w' := by
  have H : ((biremeref14_mod.f a0 a1).bind fun t444 => (if a1 = 0 then (none) else (some (wrap64 (Int.tdiv (wrap64 (a0 - t444)) a1))))) = some r := h
  clear h
  replace H := Option.bind_eq_some_iff.mp H
  obtain ⟨t444, A30, H⟩ := H
  replace H : (if a1 = 0 then (none) else (some (wrap64 (Int.tdiv (wrap64 (a0 - t444)) a1)))) = some r := H
  have A3 := Aside0.mk A30
  clear A30
  by_cases c4 : a1 = 0
  · rw [if_pos c4] at H
    exact absurd H (by simp)
  · rw [if_neg c4] at H
    have c4b0 : (a1 == 0) = false := beq_eq_false_iff_ne.mpr c4
    have c4b1 : (a1 != 0) = true := bne_iff_ne.mpr c4
    obtain rfl := Option.some.inj H
    go_enter Try.func44, Try.ntmps44
    go_wp2_with (first | ((with_reducible refine gate_callee (f := 35) rfl ?_); refine goesL_ (some 8) rfl rfl Try.func35 (by kernel_rfl) rfl #[.int .i64 a0, .int .i64 a1] rfl (by (try simp only [List.map_toArray, List.map_cons, List.map_nil]); first | done | rfl | (simp only [List.length_drop, List.length_take]; rfl)) ?_; (with_reducible refine (biremeref14_mod.calls a0 a1 t444 _ A3.out).mono ?_); rintro e w' ⟨rfl, ⟨nd, rfl⟩⟩; refine ⟨_, rfl, ?_⟩))
    go_ret
    exact ⟨by first | rfl | (simp; done) | (simp [*]; done), by repeat (first | exact Drawn0.refl _ | apply Drawn0.step)⟩

/-! ### biremeref14_up: function 43 -/
def biremeref14_up.f (a0 : Int) (a1 : Int) : Option (Int) := (biremeref14_down.f (wrap64 (-a0)) a1).bind fun t445 => (some (wrap64 (-t445)))
set_option maxHeartbeats 8000000 in
set_option maxRecDepth 100000 in
theorem biremeref14_up.calls (a0 : Int) (a1 : Int) (r : Int) (w : World) (h : biremeref14_up.f a0 a1 = some r) :
    Calls Try.prog 43 #[.int .i64 a0, .int .i64 a1] w fun e w' => e = .returned (.int .i64 r) ∧ Drawn0 w w' := by
  have H : ((biremeref14_down.f (wrap64 (-a0)) a1).bind fun t445 => (some (wrap64 (-t445)))) = some r := h
  clear h
  replace H := Option.bind_eq_some_iff.mp H
  obtain ⟨t445, A30, H⟩ := H
  replace H : (some (wrap64 (-t445))) = some r := H
  have A3 := Aside0.mk A30
  clear A30
  obtain rfl := Option.some.inj H
  go_enter Try.func43, Try.ntmps43
  go_wp2_with (first | ((with_reducible refine gate_callee (f := 44) rfl ?_); refine goesL_ (some 8) rfl rfl Try.func44 (by kernel_rfl) rfl #[.int .i64 (wrap64 (-a0)), .int .i64 a1] rfl (by (try simp only [List.map_toArray, List.map_cons, List.map_nil]); first | done | rfl | (simp only [List.length_drop, List.length_take]; rfl)) ?_; (with_reducible refine (biremeref14_down.calls (wrap64 (-a0)) a1 t445 _ A3.out).mono ?_); rintro e w' ⟨rfl, ⟨nd, rfl⟩⟩; refine ⟨_, rfl, ?_⟩))
  go_ret
  exact ⟨by first | rfl | (simp; done) | (simp [*]; done), by repeat (first | exact Drawn0.refl _ | apply Drawn0.step)⟩

/-! ### biremeref14_Of: function 42 -/
mutual
def biremeref14_Of.j1 : Nat → Int → Int → Int → Int → Bool → Bool → Bool → Int → Int → Int → Int → Int → Int → Int → Int → Int → Int → Int → Int → Option (Bool × Bool × Bool × Int × Int × Int × Int × Int × Int × Int × Int)
  | 0, _, _, _, _, _, _, _, _, _, _, _, _, _, _, _, _, _, _, _ => none
  | k + 1, x2, x3, x448000, x448001, x450000, x450001, x450002, x450003, x450004, x450005, x450006, x450007, x450008, x450009, x450010, x456000, x456001, x456002, x456003 => if x448001 = 0 then (if x456000 < 0 then (some (true, x450001, true, x456000, x456001, x456002, x456003, x450007, x450008, x450009, x450010)) else (some (decide (x456000 ≥ x2), x450001, true, x456000, x456001, x456002, x456003, x450007, x450008, x450009, x450010))) else ((biremeref14_down.f (wrap64 ((wrap64 (x2 - 1)) - x456000)) x456001).bind fun t456 => (if x456003 = 0 then (if x456002 < 0 then (some (true, x450001, x450002, x456000, x456001, x456002, x456003, 0, t456, x450009, x450010)) else (if x456002 ≥ x3 then (some (true, x450001, x450002, x456000, x456001, x456002, x456003, 0, t456, x450009, x450010)) else (some (decide (0 > t456), x450001, x450002, x456000, x456001, x456002, x456003, 0, t456, x450009, x450010)))) else (if x456003 > 0 then ((biremeref14_up.f (wrap64 (-x456002)) x456003).bind fun t457 => ((biremeref14_down.f (wrap64 ((wrap64 (x3 - 1)) - x456002)) x456003).bind fun t458 => (if x450000 = true then (some (true, x450001, x450002, x456000, x456001, x456002, x456003, mx 0 t457, mn t456 t458, x450009, x450010)) else (some (decide ((mx 0 t457) > (mn t456 t458)), x450001, x450002, x456000, x456001, x456002, x456003, mx 0 t457, mn t456 t458, x450009, x450010))))) else ((biremeref14_up.f (wrap64 (x456002 - (wrap64 (x3 - 1)))) (wrap64 (-x456003))).bind fun t459 => ((biremeref14_down.f x456002 (wrap64 (-x456003))).bind fun t460 => (if x450000 = true then (some (true, x450001, x450002, x456000, x456001, x456002, x456003, mx 0 t459, mn t456 t460, x450009, x450010)) else (some (decide ((mx 0 t459) > (mn t456 t460)), x450001, x450002, x456000, x456001, x456002, x456003, mx 0 t459, mn t456 t460, x450009, x450010))))))))
def biremeref14_Of.j0 : Nat → Int → Int → Bool → Int → Int → Int → Int → Bool → Bool → Bool → Int → Int → Int → Int → Int → Int → Int → Int → Int → Int → Int → Int → Option (Bool × Bool × Bool × Int × Int × Int × Int × Int × Int × Int × Int)
  | 0, _, _, _, _, _, _, _, _, _, _, _, _, _, _, _, _, _, _, _, _, _, _ => none
  | k + 1, x2, x3, x29, x447000, x447001, x448000, x448001, x450000, x450001, x450002, x450003, x450004, x450005, x450006, x450007, x450008, x450009, x450010, x456000, x456001, x456002, x456003 => if x29 = true then (some (true, x450001, x450002, x450003, x450004, x450005, x450006, x450007, x450008, x450009, x450010)) else (if x447001 = 0 then (if x448001 = 0 then (some (x450000, true, x450002, x450003, x450004, x450005, x450006, x450007, x450008, x450009, x450010)) else (biremeref14_Of.j1 k x2 x3 x448000 x448001 x450000 x450001 x450002 x450003 x450004 x450005 x450006 x450007 x450008 x450009 x450010 x456000 x456001 x456002 x456003)) else (biremeref14_Of.j1 k x2 x3 x448000 x448001 x450000 x450001 x450002 x450003 x450004 x450005 x450006 x450007 x450008 x450009 x450010 x456000 x456001 x456002 x456003))
end
def biremeref14_Of.f (k : Nat) (a0_0 : Int) (a0_1 : Int) (a1_0 : Int) (a1_1 : Int) (a2 : Int) (a3 : Int) : Option (Bool × Bool × Bool × Int × Int × Int × Int × Int × Int × Int × Int) := (biremeref14_Solve.f k a0_1 (wrap64 (-a1_1)) (wrap64 (a1_0 - a0_0))).bind fun bt450 => (if bt450.2.2.2.2 = true then (if a2 = 0 then (biremeref14_Of.j0 k a2 a3 true a0_0 a0_1 a1_0 a1_1 false false false 0 0 0 0 0 0 a2 a3 bt450.1 bt450.2.1 bt450.2.2.1 bt450.2.2.2.1) else (biremeref14_Of.j0 k a2 a3 (a3 == 0) a0_0 a0_1 a1_0 a1_1 false false false 0 0 0 0 0 0 a2 a3 bt450.1 bt450.2.1 bt450.2.2.1 bt450.2.2.2.1)) else (biremeref14_Of.j0 k a2 a3 true a0_0 a0_1 a1_0 a1_1 false false false 0 0 0 0 0 0 a2 a3 bt450.1 bt450.2.1 bt450.2.2.1 bt450.2.2.2.1))

/-! ### biremeref14_Meet: function 29 -/
def biremeref14_Meet.f (k : Nat) (a0_0 : Int) (a0_1 : Int) (a1_0 : Int) (a1_1 : Int) (a2 : Int) (a3 : Int) : Option (Int × Int × Bool) := (biremeref14_Of.f k a0_0 a0_1 a1_0 a1_1 a2 a3).bind fun bt463 => (if bt463.1 = true then (some (0, 0, false)) else (if bt463.2.1 = true then (some (0, 0, true)) else (if bt463.2.2.1 = true then (some (bt463.2.2.2.1, 0, true)) else (some (wrap64 (bt463.2.2.2.1 + (wrap64 (bt463.2.2.2.2.1 * bt463.2.2.2.2.2.2.2.1))), wrap64 (bt463.2.2.2.2.2.1 + (wrap64 (bt463.2.2.2.2.2.2.1 * bt463.2.2.2.2.2.2.2.1))), true)))))

/-! ### biremeref14_Count: function 30 -/
def biremeref14_Count.f (k : Nat) (a0_0 : Int) (a0_1 : Int) (a1_0 : Int) (a1_1 : Int) (a2 : Int) (a3 : Int) : Option (Int) := (biremeref14_Of.f k a0_0 a0_1 a1_0 a1_1 a2 a3).bind fun bt477 => (if bt477.1 = true then (some 0) else (if bt477.2.1 = true then (some (wrap64 (a2 * a3))) else (if bt477.2.2.1 = true then (some a3) else (some (wrap64 ((wrap64 (bt477.2.2.2.2.2.2.2.2.1 - bt477.2.2.2.2.2.2.2.1)) + 1))))))

/-! ### biremelaw14_AffineMeets: function 9 -/
mutual
def biremelaw14_AffineMeets.j1 : Nat → Int → Int → Bool → Int → Int → Int → Int → Int → Int → Int → Int → Int → Int → Option (Bool)
  | 0, _, _, _, _, _, _, _, _, _, _, _, _, _ => none
  | k + 1, x3, x4, x5, x6, x7, x8, x9, x490000, x490001, x490002, x490003, x490004, x490005 => if x9 = 0 then ((biremeref14_Meet.f k x490000 x490001 x490002 x490003 x490004 x490005).bind fun bt502 => (if x3 = bt502.1 then (if x4 = bt502.2.1 then (if (x5 == bt502.2.2) = true then (if x6 = 0 then ((biremeref14_Count.f k x490000 x490001 x490002 x490003 x490004 x490005).bind fun t505 => (if x7 = t505 then (if x8 = 0 then ((biremelaw14_alive.f k).bind fun t506 => (some t506)) else (some false)) else (some false))) else (some false)) else (some false)) else (some false)) else (some false))) else (if x3 = 0 then (if x4 = 0 then (if x5 = true then (some false) else (if x6 = x9 then (if x7 = 0 then (if x8 = x9 then ((biremelaw14_alive.f k).bind fun t507 => (some t507)) else (some false)) else (some false)) else (some false))) else (some false)) else (some false))
def biremelaw14_AffineMeets.j0 : Nat → Int → Int → Bool → Int → Int → Int → Int → Bool → Int → Int → Int → Int → Int → Int → Option (Bool)
  | 0, _, _, _, _, _, _, _, _, _, _, _, _, _, _ => none
  | k + 1, x3, x4, x5, x6, x7, x8, x9, x39, x490000, x490001, x490002, x490003, x490004, x490005 => if x39 = true then (biremelaw14_AffineMeets.j1 k x3 x4 x5 x6 x7 x8 3 x490000 x490001 x490002 x490003 x490004 x490005) else (if x490004 < 0 then (biremelaw14_AffineMeets.j1 k x3 x4 x5 x6 x7 x8 2 x490000 x490001 x490002 x490003 x490004 x490005) else (if x490005 < 0 then (biremelaw14_AffineMeets.j1 k x3 x4 x5 x6 x7 x8 2 x490000 x490001 x490002 x490003 x490004 x490005) else (biremelaw14_AffineMeets.j1 k x3 x4 x5 x6 x7 x8 x9 x490000 x490001 x490002 x490003 x490004 x490005)))
end
def biremelaw14_AffineMeets.f (k : Nat) (a0_0 : Int) (a0_1 : Int) (a0_2 : Int) (a0_3 : Int) (a0_4 : Int) (a0_5 : Int) : Option (Bool) := (affine_Meet.f k a0_0 a0_1 a0_2 a0_3 a0_4 a0_5).bind fun bt490 => ((affine_Count.f k a0_0 a0_1 a0_2 a0_3 a0_4 a0_5).bind fun bt494 => ((biremeref14_Line.f k a0_0 a0_1).bind fun t496 => (if t496 = true then ((biremeref14_Line.f k a0_2 a0_3).bind fun t497 => (if t497 = true then ((biremeref14_Within.f k (([a0_4, a0_5] : List Int))).bind fun t501 => (biremelaw14_AffineMeets.j0 k bt490.1 bt490.2.1 bt490.2.2.1 bt490.2.2.2 bt494.1 bt494.2 0 (!t501) a0_0 a0_1 a0_2 a0_3 a0_4 a0_5)) else (biremelaw14_AffineMeets.j0 k bt490.1 bt490.2.1 bt490.2.2.1 bt490.2.2.2 bt494.1 bt494.2 0 true a0_0 a0_1 a0_2 a0_3 a0_4 a0_5))) else (biremelaw14_AffineMeets.j0 k bt490.1 bt490.2.1 bt490.2.2.1 bt490.2.2.2 bt494.1 bt494.2 0 true a0_0 a0_1 a0_2 a0_3 a0_4 a0_5))))

/-! ### biremeref14_Ahead: function 21 -/
mutual
def biremeref14_Ahead.j0 : Nat → Int → Int → Int → Bool → Bool → Bool → Int → Int → Int → Int → Int → Int → Int → Int → Option (Int × Bool)
  | 0, _, _, _, _, _, _, _, _, _, _, _, _, _, _ => none
  | k + 1, x3, x11, x12, x522000, x522001, x522002, x522003, x522004, x522005, x522006, x522007, x522008, x522009, x522010 => if x522000 = true then (some (0, false)) else (if x522001 = true then (biremeref14_Ahead.j1 k x3 x11 x12 true x522000 x522001 x522002 x522003 x522004 x522005 x522006 x522007 x522008 x522009 x522010) else (biremeref14_Ahead.j1 k x3 x11 x12 x522002 x522000 x522001 x522002 x522003 x522004 x522005 x522006 x522007 x522008 x522009 x522010))
def biremeref14_Ahead.j1 : Nat → Int → Int → Int → Bool → Bool → Bool → Bool → Int → Int → Int → Int → Int → Int → Int → Int → Option (Int × Bool)
  | 0, _, _, _, _, _, _, _, _, _, _, _, _, _, _, _ => none
  | k + 1, x3, x11, x12, x41, x522000, x522001, x522002, x522003, x522004, x522005, x522006, x522007, x522008, x522009, x522010 => if x41 = true then (if (mx x11 x3) > x12 then (some (0, false)) else (some (mx x11 x3, true))) else (if (wrap64 (x522006 - x522004)) > 0 then ((biremeref14_up.f (wrap64 (x3 - (wrap64 (x522005 - x522003)))) (wrap64 (x522006 - x522004))).bind fun t522 => (if (mx x522007 t522) < x522007 then (some (0, false)) else (if (mx x522007 t522) > x522008 then (some (0, false)) else (if (wrap64 ((wrap64 (x522005 - x522003)) + (wrap64 ((wrap64 (x522006 - x522004)) * (mx x522007 t522))))) < x3 then (some (0, false)) else (some (wrap64 ((wrap64 (x522005 - x522003)) + (wrap64 ((wrap64 (x522006 - x522004)) * (mx x522007 t522)))), true)))))) else (if (wrap64 (x522006 - x522004)) < 0 then ((biremeref14_down.f (wrap64 ((wrap64 (x522005 - x522003)) - x3)) (wrap64 (-(wrap64 (x522006 - x522004))))).bind fun t523 => (if (mn x522008 t523) < x522007 then (some (0, false)) else (if (mn x522008 t523) > x522008 then (some (0, false)) else (if (wrap64 ((wrap64 (x522005 - x522003)) + (wrap64 ((wrap64 (x522006 - x522004)) * (mn x522008 t523))))) < x3 then (some (0, false)) else (some (wrap64 ((wrap64 (x522005 - x522003)) + (wrap64 ((wrap64 (x522006 - x522004)) * (mn x522008 t523)))), true)))))) else (if x522007 < x522007 then (some (0, false)) else (if x522007 > x522008 then (some (0, false)) else (if (wrap64 ((wrap64 (x522005 - x522003)) + (wrap64 ((wrap64 (x522006 - x522004)) * x522007)))) < x3 then (some (0, false)) else (some (wrap64 ((wrap64 (x522005 - x522003)) + (wrap64 ((wrap64 (x522006 - x522004)) * x522007))), true)))))))
end
def biremeref14_Ahead.f (k : Nat) (a0_0 : Int) (a0_1 : Int) (a1_0 : Int) (a1_1 : Int) (a2 : Int) (a3 : Int) : Option (Int × Bool) := (biremeref14_Of.f k a0_0 a0_1 a1_0 a1_1 a2 a2).bind fun bt510 => (if bt510.2.2.1 = true then (biremeref14_Ahead.j0 k a3 (wrap64 (-bt510.2.2.2.1)) (wrap64 ((wrap64 (a2 - 1)) - bt510.2.2.2.1)) bt510.1 bt510.2.1 bt510.2.2.1 bt510.2.2.2.1 bt510.2.2.2.2.1 bt510.2.2.2.2.2.1 bt510.2.2.2.2.2.2.1 bt510.2.2.2.2.2.2.2.1 bt510.2.2.2.2.2.2.2.2.1 bt510.2.2.2.2.2.2.2.2.2.1 bt510.2.2.2.2.2.2.2.2.2.2) else (biremeref14_Ahead.j0 k a3 (wrap64 (-(wrap64 (a2 - 1)))) (wrap64 (a2 - 1)) bt510.1 bt510.2.1 bt510.2.2.1 bt510.2.2.2.1 bt510.2.2.2.2.1 bt510.2.2.2.2.2.1 bt510.2.2.2.2.2.2.1 bt510.2.2.2.2.2.2.2.1 bt510.2.2.2.2.2.2.2.2.1 bt510.2.2.2.2.2.2.2.2.2.1 bt510.2.2.2.2.2.2.2.2.2.2))

/-! ### biremeref14_Behind: function 22 -/
def biremeref14_Behind.f (k : Nat) (a0_0 : Int) (a0_1 : Int) (a1_0 : Int) (a1_1 : Int) (a2 : Int) : Option (Int × Bool) := (biremeref14_Of.f k a0_0 a0_1 a1_0 a1_1 a2 a2).bind fun bt526 => (if bt526.1 = true then (some (0, false)) else (if bt526.2.1 = true then (some (wrap64 (a2 - 1), true)) else (if bt526.2.2.1 = true then (some (wrap64 ((wrap64 (a2 - 1)) - bt526.2.2.2.1), true)) else (if (wrap64 (bt526.2.2.2.2.2.2.1 - bt526.2.2.2.2.1)) > 0 then (some (wrap64 ((wrap64 (bt526.2.2.2.2.2.1 - bt526.2.2.2.1)) + (wrap64 ((wrap64 (bt526.2.2.2.2.2.2.1 - bt526.2.2.2.2.1)) * bt526.2.2.2.2.2.2.2.2.1))), true)) else (some (wrap64 ((wrap64 (bt526.2.2.2.2.2.1 - bt526.2.2.2.1)) + (wrap64 ((wrap64 (bt526.2.2.2.2.2.2.1 - bt526.2.2.2.2.1)) * bt526.2.2.2.2.2.2.2.1))), true))))))

/-! ### biremelaw14_AffineAheads: function 4 -/
mutual
def biremelaw14_AffineAheads.j0 : Nat → Int → Int → Bool → Int → Int → Bool → Int → Bool → Int → Int → Int → Int → Int → Int → Option (Bool)
  | 0, _, _, _, _, _, _, _, _, _, _, _, _, _, _ => none
  | k + 1, x1, x5, x6, x7, x8, x9, x10, x11, x539000, x539001, x539002, x539003, x539004, x539005 => if x11 = true then ((biremeref14_Within.f k (([x1] : List Int))).bind fun t554 => (biremelaw14_AffineAheads.j1 k x1 x5 x6 x7 x8 x9 x10 x11 (!t554) x539000 x539001 x539002 x539003 x539004 x539005)) else (biremelaw14_AffineAheads.j1 k x1 x5 x6 x7 x8 x9 x10 x11 true x539000 x539001 x539002 x539003 x539004 x539005)
def biremelaw14_AffineAheads.j2 : Nat → Int → Bool → Int → Bool → Int → Int → Int → Int → Int → Int → Option (Bool)
  | 0, _, _, _, _, _, _, _, _, _, _ => none
  | k + 1, x8, x9, x10, x11, x539000, x539001, x539002, x539003, x539004, x539005 => if x11 = true then (if x539004 < 0 then (if x8 = 0 then (if x9 = true then (some false) else (if x10 = 2 then ((biremelaw14_alive.f k).bind fun t557 => (some t557)) else (some false))) else (some false)) else ((biremeref14_Behind.f k x539000 x539001 x539002 x539003 x539004).bind fun bt558 => (if x8 = bt558.1 then (if (x9 == bt558.2) = true then (if x10 = 0 then ((biremelaw14_alive.f k).bind fun t560 => (some t560)) else (some false)) else (some false)) else (some false)))) else (if x8 = 0 then (if x9 = true then (some false) else (if x10 = 3 then ((biremelaw14_alive.f k).bind fun t561 => (some t561)) else (some false))) else (some false))
def biremelaw14_AffineAheads.j1 : Nat → Int → Int → Bool → Int → Int → Bool → Int → Bool → Bool → Int → Int → Int → Int → Int → Int → Option (Bool)
  | 0, _, _, _, _, _, _, _, _, _, _, _, _, _, _, _ => none
  | k + 1, x1, x5, x6, x7, x8, x9, x10, x11, x76, x539000, x539001, x539002, x539003, x539004, x539005 => if x76 = true then (if x5 = 0 then (if x6 = true then (some false) else (if x7 = 3 then (biremelaw14_AffineAheads.j2 k x8 x9 x10 x11 x539000 x539001 x539002 x539003 x539004 x539005) else (some false))) else (some false)) else (if x539004 < 0 then (if x5 = 0 then (if x6 = true then (some false) else (if x7 = 2 then (biremelaw14_AffineAheads.j2 k x8 x9 x10 x11 x539000 x539001 x539002 x539003 x539004 x539005) else (some false))) else (some false)) else ((biremeref14_Ahead.f k x539000 x539001 x539002 x539003 x539004 x1).bind fun bt555 => (if x5 = bt555.1 then (if (x6 != bt555.2) = true then (some false) else (if x7 = 0 then (biremelaw14_AffineAheads.j2 k x8 x9 x10 x11 x539000 x539001 x539002 x539003 x539004 x539005) else (some false))) else (some false))))
end
def biremelaw14_AffineAheads.f (k : Nat) (a0_0 : Int) (a0_1 : Int) (a0_2 : Int) (a0_3 : Int) (a0_4 : Int) (a0_5 : Int) (a1 : Int) : Option (Bool) := (affine_Ahead.f k a0_0 a0_1 a0_2 a0_3 a0_4 a1).bind fun bt539 => ((affine_Behind.f k a0_0 a0_1 a0_2 a0_3 a0_4).bind fun bt542 => ((biremeref14_Line.f k a0_0 a0_1).bind fun t545 => (if t545 = true then ((biremeref14_Line.f k a0_2 a0_3).bind fun t546 => (if t546 = true then ((biremeref14_Within.f k (([a0_4] : List Int))).bind fun t550 => (biremelaw14_AffineAheads.j0 k a1 bt539.1 bt539.2.1 bt539.2.2 bt542.1 bt542.2.1 bt542.2.2 t550 a0_0 a0_1 a0_2 a0_3 a0_4 a0_5)) else (biremelaw14_AffineAheads.j0 k a1 bt539.1 bt539.2.1 bt539.2.2 bt542.1 bt542.2.1 bt542.2.2 false a0_0 a0_1 a0_2 a0_3 a0_4 a0_5))) else (biremelaw14_AffineAheads.j0 k a1 bt539.1 bt539.2.1 bt539.2.2 bt542.1 bt542.2.1 bt542.2.2 false a0_0 a0_1 a0_2 a0_3 a0_4 a0_5))))

end Go.Proofs.Ytiedehjmhlgicaa.PAll
