/- The law that tries every pair, as plain mathematics. -/
import Derived.Test.YtiedehjmhlgicaaLTried
import Derived.Test.YtiedehjmhlgicaaM6
set_option maxHeartbeats 2000000
set_option linter.unusedVariables false
set_option linter.unusedSimpArgs false
namespace Go.Proofs.Ytiedehjmhlgicaa.PAll.Aff
open Go.RowKit Go.Proofs.YtiedehjmhlgicaaW.PrintWords Go.Proofs.YtiedehjmhlgicaaW.PrintLast Go.Proofs.YtiedehjmhlgicaaW.PrintMore
/-- The pairs that have been tried: those ahead of (I, J). -/
def Sb (pb ps qb qs n m I J i j : Int) : Prop := Pair pb ps qb qs n m i j ∧ (i < I ∨ i = I ∧ j < J)
theorem Sb.next {pb ps qb qs n m I J : Int} (hI : 0 ≤ I ∧ I < n) (hJ : 0 ≤ J ∧ J < m) (i j : Int) :
    Sb pb ps qb qs n m I (J + 1) i j ↔ Sb pb ps qb qs n m I J i j ∨ (i = I ∧ j = J ∧ pb + ps * I = qb + qs * J) := by
  unfold Sb Pair
  constructor
  · rintro ⟨⟨a, b, c, d, e⟩, h⟩
    by_cases hx : i = I ∧ j = J
    · obtain ⟨rfl, rfl⟩ := hx
      exact Or.inr ⟨rfl, rfl, e⟩
    · exact Or.inl ⟨⟨a, b, c, d, e⟩, by omega⟩
  · rintro (⟨h, g⟩ | ⟨rfl, rfl, e⟩)
    · exact ⟨h, by omega⟩
    · exact ⟨⟨hI.1, hI.2, hJ.1, hJ.2, e⟩, by omega⟩
theorem Sb.row {pb ps qb qs n m I J : Int} (hJ : m ≤ J) (i j : Int) : Sb pb ps qb qs n m (I + 1) 0 i j ↔ Sb pb ps qb qs n m I J i j := by
  unfold Sb Pair
  constructor
  · rintro ⟨⟨a, b, c, d, e⟩, h⟩; exact ⟨⟨a, b, c, d, e⟩, by omega⟩
  · rintro ⟨⟨a, b, c, d, e⟩, h⟩; exact ⟨⟨a, b, c, d, e⟩, by omega⟩
theorem Sb.none {pb ps qb qs n m : Int} (i j : Int) : ¬ Sb pb ps qb qs n m 0 0 i j := by
  unfold Sb Pair; omega
theorem Sb.all {pb ps qb qs n m I : Int} (h : n ≤ I) (i j : Int) : Sb pb ps qb qs n m I 0 i j ↔ Pair pb ps qb qs n m i j := by
  unfold Sb Pair
  constructor
  · rintro ⟨h, _⟩; exact h
  · rintro ⟨a, b, c, d, e⟩; exact ⟨⟨a, b, c, d, e⟩, by omega⟩
/-- What the first inner loop knows. -/
structure StA (S : Int → Int → Prop) (met : Bool) (c i0 j0 : Int) : Prop where
  yes : met = true → S i0 j0 ∧ ∀ i j, S i j → i0 < i ∨ i0 = i ∧ j0 ≤ j
  no : met = false → i0 = 0 ∧ j0 = 0 ∧ ∀ i j, ¬ S i j
  cnt : ∃ L : List (Int × Int), L.Nodup ∧ (∀ i j, (i, j) ∈ L ↔ S i j) ∧ (L.length : Int) = c
theorem StA.congr {S T : Int → Int → Prop} {met : Bool} {c i0 j0 : Int} (h : StA S met c i0 j0) (e : ∀ i j, T i j ↔ S i j) : StA T met c i0 j0 := by
  have : T = S := by funext i j; exact propext (e i j)
  rw [this]; exact h
theorem StA.hit {S T : Int → Int → Prop} {met : Bool} {c i0 j0 I J : Int} (h : StA S met c i0 j0) (e : ∀ i j, T i j ↔ S i j ∨ (i = I ∧ j = J)) (hn : ∀ i j, S i j → i < I ∨ i = I ∧ j < J) :
    StA T true (c + 1) (if met = true then i0 else I) (if met = true then j0 else J) := by
  obtain ⟨L, l1, l2, l3⟩ := h.cnt
  refine ⟨fun _ => ?_, (fun h => by cases h), (I, J) :: L, ?_, fun i j => ?_, by simp only [List.length_cons]; omega⟩
  · cases hm : met
    · rw [if_neg (by simp), if_neg (by simp)]
      refine ⟨(e _ _).mpr (Or.inr ⟨rfl, rfl⟩), fun i j hij => ?_⟩
      rcases (e _ _).mp hij with h1 | ⟨rfl, rfl⟩
      · exact absurd h1 ((h.no hm).2.2 i j)
      · omega
    · rw [if_pos rfl, if_pos rfl]
      obtain ⟨g1, g2⟩ := h.yes hm
      refine ⟨(e _ _).mpr (Or.inl g1), fun i j hij => ?_⟩
      rcases (e _ _).mp hij with h1 | ⟨rfl, rfl⟩
      · exact g2 i j h1
      · have := hn _ _ g1; omega
  · rw [List.nodup_cons]
    refine ⟨fun hm => ?_, l1⟩
    have := hn _ _ ((l2 _ _).mp hm); omega
  · rw [List.mem_cons, e, ← l2, Prod.mk.injEq]
    constructor
    · rintro (h | h)
      · exact Or.inr h
      · exact Or.inl h
    · rintro (h | h)
      · exact Or.inr h
      · exact Or.inl h
theorem StA.meet {pb ps qb qs n m : Int} {met : Bool} {c i0 j0 : Int} (h : StA (Pair pb ps qb qs n m) met c i0 j0) : MeetOf pb ps qb qs n m i0 j0 met := ⟨h.yes, h.no⟩
theorem StA.count {pb ps qb qs n m : Int} {met : Bool} {c i0 j0 : Int} (h : StA (Pair pb ps qb qs n m) met c i0 j0) : CountOf pb ps qb qs n m c := h.cnt
/-- What the second inner loop knows. -/
structure StB (S : Int → Int → Prop) (least a b : Int) : Prop where
  asz : -100 ≤ a ∧ a ≤ 100
  bsz : -100 ≤ b ∧ b ≤ 100
  ayes : a < 100 → least ≤ a ∧ (∃ i, S i (i + a)) ∧ ∀ i j, S i j → least ≤ j - i → a ≤ j - i
  ano : ¬ a < 100 → ∀ i j, S i j → ¬ least ≤ j - i
  byes : b > -100 → (∃ i, S i (i + b)) ∧ ∀ i j, S i j → j - i ≤ b
  bno : ¬ b > -100 → ∀ i j, ¬ S i j
theorem StB.congr {S T : Int → Int → Prop} {l a b : Int} (h : StB S l a b) (e : ∀ i j, T i j ↔ S i j) : StB T l a b := by
  have : T = S := by funext i j; exact propext (e i j)
  rw [this]; exact h
theorem StB.hit {S T : Int → Int → Prop} {l a b I J : Int} (h : StB S l a b) (e : ∀ i j, T i j ↔ S i j ∨ (i = I ∧ j = J)) (hd : -90 ≤ J - I ∧ J - I ≤ 90) :
    StB T l (if J - I ≥ l then mn a (J - I) else a) (mx b (J - I)) := by
  have hJ : T I (I + (J - I)) := (e _ _).mpr (Or.inr ⟨rfl, by omega⟩)
  have up : ∀ i j, S i j → T i j := fun i j h => (e _ _).mpr (Or.inl h)
  obtain ⟨a1, a2⟩ := h.asz
  obtain ⟨b1, b2⟩ := h.bsz
  have mn1 : mn a (J - I) ≤ a ∧ mn a (J - I) ≤ J - I ∧ (mn a (J - I) = a ∨ mn a (J - I) = J - I) := by unfold mn; split <;> omega
  have mx1 : b ≤ mx b (J - I) ∧ J - I ≤ mx b (J - I) ∧ (mx b (J - I) = b ∨ mx b (J - I) = J - I) := by unfold mx; split <;> omega
  generalize mn a (J - I) = p at *
  generalize mx b (J - I) = q at *
  refine ⟨by split <;> omega, by omega, fun hlt => ?_, fun hlt i j hij => ?_, fun hlt => ?_, fun hlt => by omega⟩
  · by_cases hg : J - I ≥ l
    · rw [if_pos hg] at hlt ⊢
      by_cases ha : a < 100
      · obtain ⟨c1, ⟨i1, c2⟩, c3⟩ := h.ayes ha
        refine ⟨by omega, ?_, fun i j hij hl => ?_⟩
        · rcases mn1.2.2 with hp | hp
          · rw [hp]; exact ⟨i1, up _ _ c2⟩
          · rw [hp]; exact ⟨I, hJ⟩
        · rcases (e _ _).mp hij with h1 | ⟨rfl, rfl⟩
          · have := c3 i j h1 hl; omega
          · omega
      · refine ⟨by omega, ⟨I, by rw [show p = J - I by omega]; exact hJ⟩, fun i j hij hl => ?_⟩
        rcases (e _ _).mp hij with h1 | ⟨rfl, rfl⟩
        · exact absurd hl (h.ano ha i j h1)
        · omega
    · rw [if_neg hg] at hlt ⊢
      obtain ⟨c1, ⟨i1, c2⟩, c3⟩ := h.ayes hlt
      refine ⟨c1, ⟨i1, up _ _ c2⟩, fun i j hij hl => ?_⟩
      rcases (e _ _).mp hij with h1 | ⟨rfl, rfl⟩
      · exact c3 i j h1 hl
      · omega
  · by_cases hg : J - I ≥ l
    · rw [if_pos hg] at hlt; omega
    · rw [if_neg hg] at hlt
      rcases (e _ _).mp hij with h1 | ⟨rfl, rfl⟩
      · exact h.ano hlt i j h1
      · omega
  · by_cases hb : b > -100
    · obtain ⟨⟨i1, c2⟩, c3⟩ := h.byes hb
      refine ⟨?_, fun i j hij => ?_⟩
      · rcases mx1.2.2 with hp | hp
        · rw [hp]; exact ⟨i1, up _ _ c2⟩
        · rw [hp]; exact ⟨I, hJ⟩
      · rcases (e _ _).mp hij with h1 | ⟨rfl, rfl⟩
        · have := c3 i j h1; omega
        · omega
    · refine ⟨⟨I, by rw [show q = J - I by omega]; exact hJ⟩, fun i j hij => ?_⟩
      rcases (e _ _).mp hij with h1 | ⟨rfl, rfl⟩
      · exact absurd h1 (h.bno hb i j)
      · omega
theorem StB.ahead {pb ps qb qs n l a b : Int} (h : StB (Pair pb ps qb qs n n) l a b) : AheadOf pb ps qb qs n l (if a < 100 then a else 0) (decide (a < 100)) := by
  refine ⟨fun ho => ?_, fun ho => ?_⟩
  · have ha : a < 100 := of_decide_eq_true ho
    rw [if_pos ha]; exact h.ayes ha
  · have ha : ¬ a < 100 := of_decide_eq_false ho
    rw [if_neg ha]; exact ⟨rfl, fun i j hij => h.ano ha i j hij⟩
theorem StB.behind {pb ps qb qs n l a b : Int} (h : StB (Pair pb ps qb qs n n) l a b) : BehindOf pb ps qb qs n (if b > -100 then b else 0) (decide (b > -100)) := by
  refine ⟨fun ho => ?_, fun ho => ?_⟩
  · have ha : b > -100 := of_decide_eq_true ho
    rw [if_pos ha]; exact h.byes ha
  · have ha : ¬ b > -100 := of_decide_eq_false ho
    rw [if_neg ha]; exact ⟨rfl, h.bno ha⟩
theorem at_eval {p s i : Int} (hp : p.natAbs ≤ 40) (hs : s.natAbs ≤ 10) (hi : i.natAbs ≤ 100) : biremelaw14_at.f p s i = some (p + s * i) := by
  unfold biremelaw14_at.f
  have := mul_abs hs hi
  rw [w64 (n := s * i) (by omega), w64 (n := p + s * i) (by omega)]
theorem tried_two {pb ps qb qs n m l : Int} (h1 : pb.natAbs ≤ 40) (h2 : ps.natAbs ≤ 10) (h3 : qb.natAbs ≤ 40) (h4 : qs.natAbs ≤ 10) (hn : 0 ≤ n ∧ n ≤ 40) (I : Int) (hI : 0 ≤ I ∧ I < n) (met : Bool) (c i0 j0 : Int) (d : Nat) :
    ∀ (k : Nat) (J a b : Int), 0 ≤ J → (n - J).toNat = d → J ≤ n → d < k → StB (Sb pb ps qb qs n n I J) l a b →
    ∃ a' b', biremelaw14_AffineTried.l2 k l met c a b i0 j0 I J pb ps qb qs n m = biremelaw14_AffineTried.l0 (k - d - 1) l met c a' b' i0 j0 (I + 1) pb ps qb qs n m ∧ StB (Sb pb ps qb qs n n (I + 1) 0) l a' b' := by
  induction d with
  | zero =>
    intro k J a b hJ hd hJn hk hs
    obtain ⟨k, rfl⟩ : ∃ q, k = q + 1 := ⟨k - 1, by omega⟩
    refine ⟨a, b, ?_, hs.congr (Sb.row (by omega))⟩
    simp only [biremelaw14_AffineTried.l2]
    rw [if_neg (by omega), w64 (n := I + 1) (by omega)]
    rfl
  | succ d ih =>
    intro k J a b hJ hd hJn hk hs
    obtain ⟨k, rfl⟩ : ∃ q, k = q + 1 := ⟨k - 1, by omega⟩
    simp only [biremelaw14_AffineTried.l2]
    rw [if_pos (by omega), at_eval h1 h2 (by omega), at_eval h3 h4 (by omega), w64 (n := J + 1) (by omega), w64 (n := J - I) (by omega)]
    simp only [Option.bind_some]
    have hnx := fun i j => Sb.next (pb := pb) (ps := ps) (qb := qb) (qs := qs) (n := n) (m := n) (I := I) (J := J) hI (by omega) i j
    by_cases he : pb + ps * I = qb + qs * J
    · rw [if_pos he]
      have hh := hs.hit (T := Sb pb ps qb qs n n I (J + 1)) (I := I) (J := J) (fun i j => by rw [hnx]; simp [he]) (by omega)
      by_cases hg : J - I ≥ l
      · rw [if_pos hg] at hh ⊢
        obtain ⟨a', b', e, h⟩ := ih k (J + 1) _ _ (by omega) (by omega) (by omega) (by omega) hh
        exact ⟨a', b', by rw [e]; congr 1; omega, h⟩
      · rw [if_neg hg] at hh ⊢
        obtain ⟨a', b', e, h⟩ := ih k (J + 1) _ _ (by omega) (by omega) (by omega) (by omega) hh
        exact ⟨a', b', by rw [e]; congr 1; omega, h⟩
    · rw [if_neg he]
      obtain ⟨a', b', e, h⟩ := ih k (J + 1) _ _ (by omega) (by omega) (by omega) (by omega) (hs.congr (T := Sb pb ps qb qs n n I (J + 1)) (fun i j => by rw [hnx]; simp [he]))
      exact ⟨a', b', by rw [e]; congr 1; omega, h⟩
theorem tried_one {pb ps qb qs n m l : Int} (h1 : pb.natAbs ≤ 40) (h2 : ps.natAbs ≤ 10) (h3 : qb.natAbs ≤ 40) (h4 : qs.natAbs ≤ 10) (hn : 0 ≤ n ∧ n ≤ 40) (hm : 0 ≤ m ∧ m ≤ 40) (I : Int) (hI : 0 ≤ I ∧ I < n) (a b : Int) (d : Nat) :
    ∀ (k : Nat) (J : Int) (met : Bool) (c i0 j0 : Int), 0 ≤ J → (m - J).toNat = d → J ≤ m → d < k → 0 ≤ c ∧ c ≤ 41 * I + J → StA (Sb pb ps qb qs n m I J) met c i0 j0 →
    ∃ met' c' i0' j0', biremelaw14_AffineTried.l1 k l met c a b i0 j0 I J pb ps qb qs n m = biremelaw14_AffineTried.l2 (k - d - 1) l met' c' a b i0' j0' I 0 pb ps qb qs n m ∧ StA (Sb pb ps qb qs n m (I + 1) 0) met' c' i0' j0' ∧ 0 ≤ c' ∧ c' ≤ 41 * I + 40 := by
  induction d with
  | zero =>
    intro k J met c i0 j0 hJ hd hJn hk hc hs
    obtain ⟨k, rfl⟩ : ∃ q, k = q + 1 := ⟨k - 1, by omega⟩
    refine ⟨met, c, i0, j0, ?_, hs.congr (Sb.row (by omega)), by omega, by omega⟩
    simp only [biremelaw14_AffineTried.l1]
    rw [if_neg (by omega)]
    rfl
  | succ d ih =>
    intro k J met c i0 j0 hJ hd hJn hk hc hs
    obtain ⟨k, rfl⟩ : ∃ q, k = q + 1 := ⟨k - 1, by omega⟩
    simp only [biremelaw14_AffineTried.l1]
    rw [if_pos (by omega), at_eval h1 h2 (by omega), at_eval h3 h4 (by omega), w64 (n := J + 1) (by omega), w64 (n := c + 1) (by omega)]
    simp only [Option.bind_some]
    have hnx := fun i j => Sb.next (pb := pb) (ps := ps) (qb := qb) (qs := qs) (n := n) (m := m) (I := I) (J := J) hI (by omega) i j
    by_cases he : pb + ps * I = qb + qs * J
    · rw [if_pos he]
      have hh := hs.hit (T := Sb pb ps qb qs n m I (J + 1)) (I := I) (J := J) (fun i j => by rw [hnx]; simp [he]) (fun i j h => h.2)
      by_cases hg : met = true
      · rw [if_pos hg, if_pos hg] at hh
        rw [if_pos hg]
        obtain ⟨p, q, r, s, e, h⟩ := ih k (J + 1) _ _ _ _ (by omega) (by omega) (by omega) (by omega) (by omega) hh
        exact ⟨p, q, r, s, by rw [e]; congr 1; omega, h⟩
      · rw [if_neg hg, if_neg hg] at hh
        rw [if_neg hg]
        obtain ⟨p, q, r, s, e, h⟩ := ih k (J + 1) _ _ _ _ (by omega) (by omega) (by omega) (by omega) (by omega) hh
        exact ⟨p, q, r, s, by rw [e]; congr 1; omega, h⟩
    · rw [if_neg he]
      obtain ⟨p, q, r, s, e, h⟩ := ih k (J + 1) _ _ _ _ (by omega) (by omega) (by omega) (by omega) (by omega) (hs.congr (T := Sb pb ps qb qs n m I (J + 1)) (fun i j => by rw [hnx]; simp [he]))
      exact ⟨p, q, r, s, by rw [e]; congr 1; omega, h⟩
theorem tried_zero {pb ps qb qs n m l : Int} (h1 : pb.natAbs ≤ 40) (h2 : ps.natAbs ≤ 10) (h3 : qb.natAbs ≤ 40) (h4 : qs.natAbs ≤ 10) (hn : 0 ≤ n ∧ n ≤ 40) (hm : 0 ≤ m ∧ m ≤ 40) (hl : l.natAbs ≤ 100) (d : Nat) :
    ∀ (k : Nat) (I : Int) (met : Bool) (c a b i0 j0 : Int), 0 ≤ I → (n - I).toNat = d → I ≤ n → 2147483900 + 100 * d < k → 0 ≤ c ∧ c ≤ 41 * I → StA (Sb pb ps qb qs n m I 0) met c i0 j0 → StB (Sb pb ps qb qs n n I 0) l a b →
    biremelaw14_AffineTried.l0 k l met c a b i0 j0 I pb ps qb qs n m = some true := by
  induction d with
  | zero =>
    intro k I met c a b i0 j0 hI hd hIn hk hc hA hB
    obtain ⟨k, rfl⟩ : ∃ q, k = q + 1 := ⟨k - 1, by omega⟩
    have hA' := hA.congr (T := Pair pb ps qb qs n m) (fun i j => (Sb.all (by omega) i j).symm)
    have hB' := hB.congr (T := Pair pb ps qb qs n n) (fun i j => (Sb.all (by omega) i j).symm)
    have g1 : Good pb ps qb qs [n, m] := by simp [Good, inb]; omega
    have g2 : Good pb ps qb qs [n, l] := by simp [Good, inb]; omega
    have g3 : Good pb ps qb qs [n] := by simp [Good, inb]; omega
    obtain ⟨x1, x2, x3, ex, sx⟩ := Meet_eval g1 hn.1 hm.1
    obtain ⟨y1, ey, sy⟩ := Count_eval g1 hn.1 hm.1
    obtain ⟨z1, z2, ez, sz⟩ := Ahead_eval g2 hn.1
    obtain ⟨u1, u2, eu, su⟩ := Behind_eval g3 hn.1
    obtain ⟨rfl, rfl, rfl⟩ := sx.unique hA'.meet
    obtain rfl := sy.unique hA'.count
    obtain ⟨rfl, rfl⟩ := sz.unique hB'.ahead
    obtain ⟨rfl, rfl⟩ := su.unique hB'.behind
    simp only [biremelaw14_AffineTried.l0]
    rw [if_neg (by omega), ex k (by omega), ey k (by omega), ez k (by omega), eu k (by omega), alive_eval (by omega)]
    simp only [Option.bind_some]
    by_cases p1 : a < 100 <;> by_cases p2 : b > -100 <;> simp [p1, p2]
  | succ d ih =>
    intro k I met c a b i0 j0 hI hd hIn hk hc hA hB
    obtain ⟨k, rfl⟩ : ∃ q, k = q + 1 := ⟨k - 1, by omega⟩
    simp only [biremelaw14_AffineTried.l0]
    rw [if_pos (by omega)]
    obtain ⟨p, q, r, s, e, h5, h6, h7⟩ := tried_one (l := l) h1 h2 h3 h4 hn hm I (by omega) a b _ k 0 met c i0 j0 (Int.le_refl _) rfl hm.1 (by omega) (by omega) hA
    rw [e]
    obtain ⟨a', b', e2, h8⟩ := tried_two (m := m) (l := l) h1 h2 h3 h4 hn I (by omega) p q r s _ (k - (m - 0).toNat - 1) 0 a b (Int.le_refl _) rfl hn.1 (by omega) hB
    rw [e2]
    exact ih _ (I + 1) _ _ _ _ _ _ (by omega) (by omega) (by omega) (by omega) (by omega) h5 h8
theorem few1_eval (a b : Int) : ∃ p s, biremelaw14_few_1.f a b = some (p, s) ∧ p.natAbs ≤ 30 ∧ s.natAbs ≤ 6 := by
  obtain ⟨u, eu, u0, u1⟩ := mod_eval (a := a) (m := 61) (by decide) (by decide)
  obtain ⟨v, ev, v0, v1⟩ := mod_eval (a := b) (m := 13) (by decide) (by decide)
  refine ⟨u - 30, v - 6, ?_, by omega, by omega⟩
  unfold biremelaw14_few_1.f
  rw [eu, ev]
  simp only [Option.bind_some]
  rw [w64 (n := u - 30) (by omega), w64 (n := v - 6) (by omega)]
theorem Tried_pure (a0 a1 a2 a3 a4 a5 a6 : Int) {k : Nat} (hk : 2147500000 < k) : biremelaw14_AffineTried.f k a0 a1 a2 a3 a4 a5 a6 = some true := by
  obtain ⟨p1, s1, e1, b1, b2⟩ := few1_eval a0 a1
  obtain ⟨p2, s2, e2, b3, b4⟩ := few1_eval a2 a3
  obtain ⟨n, e3, n0, n1⟩ := mod_eval (a := a4) (m := 41) (by decide) (by decide)
  obtain ⟨m, e4, m0, m1⟩ := mod_eval (a := a5) (m := 41) (by decide) (by decide)
  obtain ⟨l, e5, l0, l1⟩ := mod_eval (a := a6) (m := 90) (by decide) (by decide)
  unfold biremelaw14_AffineTried.f biremelaw14_few.f
  rw [e1, e2, e3, e4, e5]
  simp only [Option.bind_some]
  rw [w64 (n := l - 45) (by omega)]
  refine tried_zero (by omega) (by omega) (by omega) (by omega) (by omega) (by omega) (by omega) _ k 0 false 0 100 (-100) 0 0 (Int.le_refl _) rfl n0 (by omega) (by omega) ?_ ?_
  · exact ⟨(fun h => by cases h), fun _ => ⟨rfl, rfl, Sb.none⟩, [], List.nodup_nil, fun i j => by simp [Sb.none i j], rfl⟩
  · exact ⟨by omega, by omega, (fun h => by omega), fun _ i j h => absurd h (Sb.none i j), (fun h => by omega), fun _ => Sb.none⟩
end Go.Proofs.Ytiedehjmhlgicaa.PAll.Aff
