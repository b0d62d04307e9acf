/- A call of Lex returns the tokens of its text, or the offset at which none begins. -/
import Derived.Test.YtpccakfbmbkmlaaGA
import Derived.Maps.OwnIn
import Derived.RegionIn
namespace Go.Proofs.Ytpccakfbmbkmlaa.PAll
open Go.RowKit Go.Proofs.YtpccakfbmbkmlaaW.PrintWords Go.Proofs.YtpccakfbmbkmlaaW.PrintLast Go.Proofs.YtpccakfbmbkmlaaW.PrintMore
set_option linter.unusedVariables false
set_option linter.unusedSimpArgs false
open Tk (B)
attribute [local go_sem] Oper.semAt_some
theorem all_in (n : Nat) (s : ByteArray) (w : World) :
    CallsIn Fence.wide n Try.prog 31 #[.string s] w fun e w' => e = .returned (.func (.func 44) #[] #[.pointer (some ⟨w.heap.size, 0, none⟩)]) ∧ w' = w.alloc (.cells #[.string s] 9) := by
  refine callsIn_of_wp Try.func31 rfl trivial ?_ rfl
  simp only [Try.ntmps31, List.size_toArray, List.length_cons, List.length_nil, Nat.reduceAdd, Nat.reduceSub, Array.replicate_succ, Array.replicate_zero, List.push_toArray, List.append_toArray, List.nil_append, List.cons_append]
  gi_wp2
  go_ret
  exact ⟨rfl, rfl⟩
theorem all_stops (n : Nat) (hn : 1 ≤ n) (Bo h : Nat) (s : B) (hs : s.length < 4611686018427387904) (w : World) (hO : OutOk Bo w) (hBs : w.heap[Bo + 1]? = some (.cells #[.string (ba s)] 9 (0, 0))) (hNo : ¬ OutAt Bo w (Bo + 1)) :
    SeqStopsK Fence.wide n Try.prog 44 #[.pointer (some ⟨Bo + 1, 0, none⟩)] encS (KpL h Bo) (fun ys => ys = seqOf s 0) (fun pre => pre <+: seqOf s 0) (seqOf s 0).length w := fun l J Jx W hW hJ hJx hY h0 =>
  all1_in n hn l Bo h s hs J Jx W hJ hJx hY (hO.below hW) ((hW.block (Bo + 1) (Array.getElem?_eq_some_iff.1 hBs).1).trans hBs) (fun e => hNo ((OutAt.of_block (hW.block Bo hO.1) _).mp e)) h0
def token_Lex.f (a0 : ByteArray) : Option (List S31 × Int × Int) :=
  if 20000 < a0.size then some ([], 0, 3) else match (Tk.scan a0.data.toList 0).2 with
    | none => some ((Tk.scan a0.data.toList 0).1.map toS, 0, 0)
    | some e => some ([], (e : Int), 4)
theorem seqOf_len (l : B) (a : Nat) : (seqOf l a).length ≤ l.length + 1 := by
  induction l, a using Tk.scan_ind with
  | h0 l a h => rw [seqOf_nil h]; simp
  | h1 l a h h2 => rw [seqOf_bad h h2]; simp
  | h2 l a h h2 ih =>
    rw [seqOf_tok h h2, List.length_cons]
    have h3 := Tk.skip_le l
    have h4 := Tk.next_le (Tk.skip l)
    rw [List.length_drop] at ih
    omega
theorem KpL.below {h Bo : Nat} {W W' : World} (hb : Below W.heap.size W W') : KpL h Bo W W' := by
  intro hA
  have hO := OutAt.of_block (hb.block Bo hA.1)
  exact ⟨hA.below hb, hb.size, fun b cs t fr _ _ hc => hb.block b (Array.getElem?_eq_some_iff.1 hc).1, fun b hb' => .inl ((hO b).mp hb')⟩
/-- What has been collected, and where. -/
def LexI (h : Nat) (w : World) (pre : List S31) (W : World) : Prop :=
  ((Boxed W h 23 (.slice none 0 0) ∧ Boxed W (h + 1) 3 (.int .i64 0) ∧ Boxed W (h + 1 + 1) 24 (.int .i64 0)) ∧
  (∃ v, Boxed W (h + 1 + 1 + 1) 23 v ∧ Kd.R k31 31 W h (fun _ => True) v pre)) ∧ (∀ x ∈ pre, x.f0 ≠ 0) ∧ h + 5 ≤ W.heap.size ∧ Below h w W
/-- How it is left: at a token of kind 0. -/
def LexX (h : Nat) (w : World) (c : Code) (pre : List S31) (W : World) : Prop :=
  ∃ q x, (c = .ret ∧ pre = q ++ [x] ∧ x.f0 = 0 ∧ (∀ y ∈ q, y.f0 ≠ 0)) ∧ (Boxed W h 23 (.slice none 0 0) ∧ Boxed W (h + 1) 3 (.int .i64 x.f2) ∧ Boxed W (h + 1 + 1) 24 (.int .i64 4)) ∧ Below h w W
theorem boxed_turn {A W : World} {b t : Nat} {v : Value} {row : Option Nat} (h : Boxed A b t v) (hg : A.grownBy W row) (hr : ∀ r, row = some r → ∃ o : Obj, A.heap[r]? = some o ∧ o.isCells = false) : Boxed W b t v :=
  h.kept hg (fun e => by obtain ⟨o, ho, hc⟩ := hr b e.symm; rw [show A.heap[b]? = _ from h] at ho; cases ho; cases hc)
theorem R_turn {A W : World} {base : Nat} {v : Value} {xs : List S31} {row : Option Nat} (h : Kd.R k31 31 A base (fun _ => True) v xs) (hg : A.grownBy W row) (hr : ∀ r, row = some r → ∃ o : Obj, A.heap[r]? = some o ∧ o.isCells = false) : Kd.R k31 31 W base (fun _ => True) v xs := by
  refine Kd.R_mono (Kd.R_move (Kd.R_bound h) (fun k hk => ?_)) (fun _ hk => trivial)
  obtain ⟨_, _, hlt, q, _, cells, hc⟩ := hk
  refine hg.block k hlt ?_
  intro e
  obtain ⟨o, ho, hcc⟩ := hr k e.symm
  rw [hc] at ho; cases ho; cases hcc
theorem LexI.own {h : Nat} {w : World} (B : Nat) (hB : h ≤ B) : OwnFrom B (LexI h w) := by
  rintro s X Y row ⟨⟨⟨b0, b1, b2⟩, v, b3, hR⟩, hk, hsz, hbl⟩ hg hr
  have hr' : ∀ r, row = some r → ∃ o : Obj, X.heap[r]? = some o ∧ o.isCells = false := fun r e => (hr r e).2
  exact ⟨⟨⟨boxed_turn b0 hg hr', boxed_turn b1 hg hr', boxed_turn b2 hg hr'⟩, v, boxed_turn b3 hg hr', R_turn hR hg hr'⟩, hk, by have := hg.size; omega, hbl.trans ⟨hg.os, hg.tape, hg.output, hg.size, fun k hk => hg.block k (by have := b0.lt; omega) (fun e => by have := (hr k e.symm).1; omega)⟩⟩
theorem LexX.own {h : Nat} {w : World} (B : Nat) (hB : h ≤ B) (c : Code) : OwnFrom B (LexX h w c) := by
  rintro s X Y row ⟨q, x, hp, ⟨b0, b1, b2⟩, hbl⟩ hg hr
  have hr' : ∀ r, row = some r → ∃ o : Obj, X.heap[r]? = some o ∧ o.isCells = false := fun r e => (hr r e).2
  exact ⟨q, x, hp, ⟨boxed_turn b0 hg hr', boxed_turn b1 hg hr', boxed_turn b2 hg hr'⟩, hbl.trans ⟨hg.os, hg.tape, hg.output, hg.size, fun k hk => hg.block k (by have := b0.lt; omega) (fun e => by have := (hr k e.symm).1; omega)⟩⟩
theorem R_setBox {W : World} {base b t : Nat} {u : Value} {v : Value} {xs : List S31} (h : Kd.R k31 31 W base (fun _ => True) v xs) (hb : Boxed W b t u) (ht : t ≠ 31) (x : Value) : Kd.R k31 31 (W.setCell ⟨b, 0, none⟩ x) base (fun _ => True) v xs := by
  refine Kd.R_mono (Kd.R_far (Kd.R_types h hb (fun q hq => ?_)) (p := ⟨b, 0, none⟩) (fun k hk => hk.2) x) (fun _ _ => trivial)
  have e : q ∈ [31] := hq
  simp at e
  omega
theorem own_outAt {W : World} {Bo base size n : Nat} {v : Value} {xs : List Value} (hb : Boxed W Bo 23 v) (ho : W.ownsRow base 31 size v n xs) (b : Nat) : OutAt Bo W b ↔ v.ownBlock = some b := by
  constructor
  · rintro ⟨o, c, m, cap, hh⟩
    rw [hb.cell] at hh
    have hh := Option.some.inj hh
    rcases ho.2 with ⟨rfl, _⟩ | ⟨g, cap', cur, rfl, _⟩
    · simp at hh
    · simp at hh
      simp [Value.ownBlock, hh.1.1]
  · intro h
    rcases ho.2 with ⟨rfl, _⟩ | ⟨g, cap', cur, rfl, _⟩
    · simp [Value.ownBlock] at h
    · have : g = b := by simpa [Value.ownBlock] using h
      subst this
      exact ⟨0, none, _, _, hb.cell⟩
theorem KpL.appended {h Bo base n m : Nat} {W w1 : World} {v v' : Value} {xs ys : List Value} {tmp : Obj} (hh : h ≤ Bo) (hb : Boxed W Bo 23 v) (ho : W.ownsRow base 31 3 v n xs) (hg : (W.alloc tmp).grownBy w1 v.ownBlock)
    (hb1 : Boxed w1 Bo 23 v) (ho1 : w1.ownsRow base 31 3 v' m ys) (hat : v'.ownBlock = v.ownBlock ∨ v'.ownBlock = some (W.alloc tmp).heap.size) : KpL h Bo W (w1.setCell ⟨Bo, 0, none⟩ v') := by
  intro hA
  have hb2 : Boxed (w1.setCell ⟨Bo, 0, none⟩ v') Bo 23 v' := hb1.set v'
  have ho2 : (w1.setCell ⟨Bo, 0, none⟩ v').ownsRow base 31 3 v' m ys := own_setCell ho1 (fun e => hb1.not_row (by decide) ho1 e) v'
  have hO := own_outAt hb ho
  have hO2 := own_outAt hb2 ho2
  have hsz1 : W.heap.size + 1 ≤ w1.heap.size := by have := hg.size; simpa using this
  have hsz2 : (w1.setCell ⟨Bo, 0, none⟩ v').heap.size = w1.heap.size := by simp [World.setCell]
  refine ⟨⟨by rw [hsz2]; have := hA.1; omega, fun b hbo => ?_⟩, by rw [hsz2]; omega, ?_, ?_⟩
  · exact own_lt ho2 b ((hO2 b).mp hbo)
  · intro b cs t fr hbb hn hc
    have hlt : b < W.heap.size := (Array.getElem?_eq_some_iff.1 hc).1
    have hne : b ≠ Bo := by
      rintro rfl
      rw [show W.heap[b]? = _ from hb] at hc
      omega
    rw [Below.heap_setCell w1 ⟨Bo, 0, none⟩ v' b hne, hg.block b (by simp; omega) (fun e => hn ((hO b).mpr e.symm))]
    exact (((Below.refl W.heap.size W).alloc (Nat.le_refl _) _).block b hlt)
  · intro b hbo
    have e := (hO2 b).mp hbo
    rcases hat with h' | h'
    · exact .inl ((hO b).mpr (h' ▸ e))
    · rw [h'] at e
      simp at e
      exact .inr (by omega)
/-- The loop's variable, and the slots behind the assignment to it. -/
def LexA (h : Nat) (s : B) (x : S31) (a' : Act) (W : World) : Prop :=
  ∃ Bx, h + 1 + 1 + 1 + 1 < Bx ∧ W.heap[Bx]? = some (.cells #[.int .i64 x.f0, .string x.f1, .int .i64 x.f2] 31 (0, 0)) ∧
    a' = { tmps := #[.string (ba s), undef, .pointer (some ⟨h, 0, none⟩), .pointer (some ⟨h + 1, 0, none⟩), .pointer (some ⟨h + 1 + 1, 0, none⟩), .pointer (some ⟨h + 1 + 1 + 1, 0, none⟩), .pointer (some ⟨Bx, 0, none⟩), .string (ba s), .int .i64 (s.length : Int), .bool false, .string (ba s), .func (.func 44) #[] #[.pointer (some ⟨h + 1 + 1 + 1 + 1, 0, none⟩)], .agg #[.int .i64 x.f0, .string x.f1, .int .i64 x.f2], undef, undef, undef, undef, undef, undef, undef, undef, undef, undef], defers := [] }
theorem seqOf_none {l : B} {a : Nat} (h : (Tk.scan l a).2 = none) : seqOf l a = (Tk.scan l a).1.map toS := by unfold seqOf; rw [h]; simp
theorem Lex_end {s : B} (hs : s.length ≤ 20000) {r1 : List S31} {r2 r3 : Int} (hr : token_Lex.f (ba s) = some (r1, r2, r3)) {xs : List S31} (hxs : xs = seqOf s 0) (hk : ∀ x ∈ xs, x.f0 ≠ 0) : r1 = xs ∧ r2 = 0 ∧ r3 = 0 := by
  unfold token_Lex.f at hr
  rw [if_neg (by rw [ba_size]; omega), ba_data] at hr
  cases he : (Tk.scan s 0).2 with
  | none =>
    rw [he] at hr
    simp only [Option.some.injEq, Prod.mk.injEq] at hr
    obtain ⟨h1, h2, h3⟩ := hr
    exact ⟨by rw [hxs, seqOf_none he]; exact h1.symm, h2.symm, h3.symm⟩
  | some e =>
    exfalso
    refine hk ⟨0, ba [], (e : Int)⟩ ?_ rfl
    rw [hxs]
    unfold seqOf
    rw [he]
    simp
theorem scan_kinds (l : B) (a : Nat) : ∀ t ∈ (Tk.scan l a).1, t.k ≠ 0 := by
  induction l, a using Tk.scan_ind with
  | h0 l a h => rw [Tk.scan_nil h]; intro t ht; cases ht
  | h1 l a h h2 => rw [Tk.scan_bad h h2]; intro t ht; cases ht
  | h2 l a h h2 ih =>
    rw [Tk.scan_tok h h2]
    intro t ht
    rcases List.mem_cons.mp ht with rfl | ht
    · have := Tk.next_kind (Tk.skip l)
      rcases this with ⟨e, _⟩ | ⟨_, e, _⟩
      · exact absurd e h2
      · show (Tk.next (Tk.skip l)).1 ≠ 0
        omega
    · exact ih t ht
theorem Lex_left {s : B} (hs : s.length ≤ 20000) {r1 : List S31} {r2 r3 : Int} (hr : token_Lex.f (ba s) = some (r1, r2, r3)) {q : List S31} {x : S31} (hp : q ++ [x] <+: seqOf s 0) (hx : x.f0 = 0) : r1 = [] ∧ r2 = x.f2 ∧ r3 = 4 := by
  unfold token_Lex.f at hr
  rw [if_neg (by rw [ba_size]; omega), ba_data] at hr
  have hmem : x ∈ seqOf s 0 := hp.subset (by simp)
  cases he : (Tk.scan s 0).2 with
  | none =>
    exfalso
    rw [seqOf_none he, List.mem_map] at hmem
    obtain ⟨t, ht, rfl⟩ := hmem
    exact scan_kinds s 0 t ht hx
  | some e =>
    rw [he] at hr
    simp only [Option.some.injEq, Prod.mk.injEq] at hr
    obtain ⟨h1, h2, h3⟩ := hr
    unfold seqOf at hmem
    rw [he] at hmem
    simp only [List.mem_append, List.mem_map, List.mem_singleton] at hmem
    rcases hmem with ⟨t, ht, rfl⟩ | rfl
    · exact absurd hx (scan_kinds s 0 t ht)
    · exact ⟨h1.symm, h2.symm, h3.symm⟩
theorem results12 {tmps : Array Value} {W : World} {h : Nat} {A : Option Addr} {n cap : Nat} {a b : Int} (t2 : tmps[2]?.getD undef = .pointer (some ⟨h, 0, none⟩)) (t3 : tmps[3]?.getD undef = .pointer (some ⟨h + 1, 0, none⟩)) (t4 : tmps[4]?.getD undef = .pointer (some ⟨h + 1 + 1, 0, none⟩))
    (c0 : Boxed W h 23 (.slice A n cap)) (c1 : Boxed W (h + 1) 3 (.int .i64 a)) (c2 : Boxed W (h + 1 + 1) 24 (.int .i64 b)) : (results Try.f12 tmps).run Try.prog W = .ok (.tuple #[.slice A n cap, .int .i64 a, .int .i64 b]) W := by
  have e0 := c0.cell
  have e1 := c1.cell
  have e2 := c2.cell
  simp [results, Try.results12, go_sem, t2, t3, t4, e0, e1, e2]
theorem putD {A : World} {D : Nat} (o : Obj) {b t : Nat} {v : Value} (hK : A.heap[D]? = some (.deferred (some []))) (h : Boxed A b t v) : Boxed (A.putObj D o) b t v := boxed_turn h (grownBy_putObj' A D o) (fun r e => by cases e; exact ⟨_, hK, rfl⟩)
set_option maxRecDepth 100000 in
set_option maxHeartbeats 2000000 in
theorem Lex_in (n : Nat) (hn : 3 ≤ n) (s : B) (hs : s.length ≤ 20000) (w : World) (r1 : List S31) (r2 r3 : Int) (hr : token_Lex.f (ba s) = some (r1, r2, r3)) :
    CallsIn Fence.wide n Try.prog 12 #[.string (ba s)] w fun e w' => ∃ v0_ : Value, e = .returned (.tuple #[v0_, .int .i64 r2, .int .i64 r3]) ∧ Kd.R k31 31 w' w.heap.size (fun _ => True) v0_ r1 ∧ Below w.heap.size w w' := by
  have h1 : 1 ≤ n := by omega
  have HR := Lib.hid hr
  clear hr
  have hsz : (ba s).size = s.length := rfl
  refine callsIn_of_wp_marks Try.func12 rfl trivial ?_ rfl
  simp only [Try.ntmps12, List.size_toArray, List.length_cons, List.length_nil, Nat.reduceAdd, Nat.reduceSub, Array.replicate_succ, Array.replicate_zero, List.push_toArray, List.append_toArray, List.nil_append, List.cons_append]
  have hc9 : decide ((20000 : Int) < (s.length : Int)) = false := decide_eq_false (by omega)
  gi_wp2_with (refine ⟨trivial, ?_⟩; gi_at_call 31; refine (all_in (n - 1) _ _).mono ?_; rintro e w' ⟨rfl, rfl⟩)
  have b0 := ((((Boxed.new w 23 (.slice none 0 0)).alloc (.cells #[.int .i64 0] 3)).alloc (.cells #[.int .i64 0] 24)).alloc (.cells #[.slice none 0 0] 23)).alloc (.cells #[.string (ba s)] 9)
  have b1 := (((Boxed.new (w.alloc (.cells #[.slice none 0 0] 23)) 3 (.int .i64 0)).alloc (.cells #[.int .i64 0] 24)).alloc (.cells #[.slice none 0 0] 23)).alloc (.cells #[.string (ba s)] 9)
  have b2 := ((Boxed.new ((w.alloc (.cells #[.slice none 0 0] 23)).alloc (.cells #[.int .i64 0] 3)) 24 (.int .i64 0)).alloc (.cells #[.slice none 0 0] 23)).alloc (.cells #[.string (ba s)] 9)
  have b3 := (Boxed.new (((w.alloc (.cells #[.slice none 0 0] 23)).alloc (.cells #[.int .i64 0] 3)).alloc (.cells #[.int .i64 0] 24)) 23 (.slice none 0 0)).alloc (.cells #[.string (ba s)] 9)
  have b4 := Boxed.new ((((w.alloc (.cells #[.slice none 0 0] 23)).alloc (.cells #[.int .i64 0] 3)).alloc (.cells #[.int .i64 0] 24)).alloc (.cells #[.slice none 0 0] 23)) 9 (.string (ba s))
  have hB0 : Below w.heap.size w (((((w.alloc (.cells #[.slice none 0 0] 23)).alloc (.cells #[.int .i64 0] 3)).alloc (.cells #[.int .i64 0] 24)).alloc (.cells #[.slice none 0 0] 23)).alloc (.cells #[.string (ba s)] 9)) :=
    ((((((Below.refl _ w).alloc (Nat.le_refl _) _).alloc (by simp) _).alloc (by simp; omega) _).alloc (by simp; omega) _).alloc (by simp; omega) _)
  have hsz0 : (((((w.alloc (.cells #[.slice none 0 0] 23)).alloc (.cells #[.int .i64 0] 3)).alloc (.cells #[.int .i64 0] 24)).alloc (.cells #[.slice none 0 0] 23)).alloc (.cells #[.string (ba s)] 9)).heap.size = w.heap.size + 5 := by simp
  simp only [World.size_alloc] at b1 b2 b3 b4
  obtain ⟨W0, hW0⟩ : ∃ W0, ((((w.alloc (.cells #[.slice none 0 0] 23)).alloc (.cells #[.int .i64 0] 3)).alloc (.cells #[.int .i64 0] 24)).alloc (.cells #[.slice none 0 0] 23)).alloc (.cells #[.string (ba s)] 9) = W0 := ⟨_, rfl⟩
  rw [hW0] at b0 b1 b2 b3 b4 hB0 hsz0 ⊢
  clear hW0
  have hO : OutOk (w.heap.size + 1 + 1 + 1) W0 := by
    refine ⟨by omega, ?_⟩
    rintro b ⟨o, c, m, cap, hh⟩
    have := b3.cell
    rw [this] at hh
    simp at hh
  have hNo : ¬ OutAt (w.heap.size + 1 + 1 + 1) W0 (w.heap.size + 1 + 1 + 1 + 1) := by
    rintro ⟨o, c, m, cap, hh⟩
    have := b3.cell
    rw [this] at hh
    simp at hh
  refine wpIn_rangeFunc_ownH rfl h1 (gf := 44) (lb := #[.pointer (some ⟨w.heap.size + 1 + 1 + 1 + 1, 0, none⟩)]) rfl trivial (enters_of Try.func44 (by kernel_rfl) rfl)
    (all_stops (n - 1) (by omega) (w.heap.size + 1 + 1 + 1) w.heap.size s (by omega) W0 hO b4 hNo) KpL.trans (fun W l o o' hl hh ho hw => KpL.bk W l o o' (by omega) hh ho hw) (Below.refl _ _) (fun _ => rfl)
    (LexI w.heap.size w) (LexX w.heap.size w) (LexI.own _ (by omega)) (fun c => LexX.own _ (by omega) c)
    ⟨⟨⟨b0, b1, b2⟩, _, b3, Kd.R_nil _ _ _ _ _⟩, (fun x hx => by cases hx), by omega, hB0⟩
    (LexA w.heap.size s)
    (fun x a' _ X Y row hs hg hr => by
      obtain ⟨Bx, h1, h2, h3⟩ := hs
      refine ⟨Bx, h1, (hg.block Bx (Array.getElem?_eq_some_iff.1 h2).1 (fun e => ?_)).trans h2, h3⟩
      obtain ⟨o, ho, hc⟩ := (hr Bx e.symm).2
      rw [h2] at ho; cases ho; cases hc)
    ?assign ?body ?done ?stop
  case assign =>
    rintro l pre x W K ⟨⟨⟨c0, c1, c2⟩, v, c3, cR⟩, hk, hsW, hbl⟩ hK
    dsimp only [encS]
    gi_wp2
    have hb := (Below.refl W.heap.size W).alloc (Nat.le_refl _) (.cells #[.int .i64 x.f0, .string x.f1, .int .i64 x.f2] 31)
    exact hK _ _ ((KeepsOthers.alloc _ _).from _) (KpL.below hb) ⟨⟨⟨c0.alloc _, c1.alloc _, c2.alloc _⟩, v, c3.alloc _, Kd.R_below cR hb⟩, hk, by simp; omega, hbl.trans (hb.mono hbl.size)⟩ ⟨W.heap.size, by omega, World.alloc_heap_new W _, rfl⟩
  case body =>
    rintro l pre x a' W hl ⟨r, hrl⟩ ⟨⟨⟨c0, c1, c2⟩, v, c3, cR⟩, hk, hsW, hbl⟩ ⟨Bx, hBx, hX, rfl⟩ hlt
    have hc60 : W.cell? ⟨Bx, 0, none⟩ = some (.int .i64 x.f0) := by simp [World.cell?, hX]
    have hc61 : W.cell? ⟨Bx, 1, none⟩ = some (.string x.f1) := by simp [World.cell?, hX]
    have hc62 : W.cell? ⟨Bx, 2, none⟩ = some (.int .i64 x.f2) := by simp [World.cell?, hX]
    have cc0 := c0.cell
    have cc1 := c1.cell
    have cc2 := c2.cell
    have cc3 := c3.cell
    have cf0 := c0.frozen
    have cf1 := c1.frozen
    have cf2 := c2.frozen
    have cf3 := c3.frozen
    by_cases hx0 : x.f0 = 0
    · have hx1 : (x.f0 == 0) = true := by simpa using hx0
      have HX0 := Lib.hid hx0
      clear hx0
      gi_wp2
      have d0 : Boxed (((W.setCell ⟨w.heap.size, 0, none⟩ (.slice none 0 0)).setCell ⟨w.heap.size + 1, 0, none⟩ (.int .i64 x.f2)).setCell ⟨w.heap.size + 1 + 1, 0, none⟩ (.int .i64 4)) w.heap.size 23 (.slice none 0 0) := ((c0.set _).other (by omega) _).other (by omega) _
      have d1 : Boxed (((W.setCell ⟨w.heap.size, 0, none⟩ (.slice none 0 0)).setCell ⟨w.heap.size + 1, 0, none⟩ (.int .i64 x.f2)).setCell ⟨w.heap.size + 1 + 1, 0, none⟩ (.int .i64 4)) (w.heap.size + 1) 3 (.int .i64 x.f2) := ((c1.other (by omega) _).set _).other (by omega) _
      have d2 : Boxed (((W.setCell ⟨w.heap.size, 0, none⟩ (.slice none 0 0)).setCell ⟨w.heap.size + 1, 0, none⟩ (.int .i64 x.f2)).setCell ⟨w.heap.size + 1 + 1, 0, none⟩ (.int .i64 4)) (w.heap.size + 1 + 1) 24 (.int .i64 4) := ((c2.other (by omega) _).other (by omega) _).set _
      have dB : Below w.heap.size w (((W.setCell ⟨w.heap.size, 0, none⟩ (.slice none 0 0)).setCell ⟨w.heap.size + 1, 0, none⟩ (.int .i64 x.f2)).setCell ⟨w.heap.size + 1 + 1, 0, none⟩ (.int .i64 4)) :=
        ((hbl.setCell (p := ⟨w.heap.size, 0, none⟩) (Nat.le_refl _) _).setCell (p := ⟨w.heap.size + 1, 0, none⟩) (by simp) _).setCell (p := ⟨w.heap.size + 1 + 1, 0, none⟩) (by simp; omega) _
      have dK : KeepsOthers W (((W.setCell ⟨w.heap.size, 0, none⟩ (.slice none 0 0)).setCell ⟨w.heap.size + 1, 0, none⟩ (.int .i64 x.f2)).setCell ⟨w.heap.size + 1 + 1, 0, none⟩ (.int .i64 4)) := ((KeepsOthers.setCell _ _ _).trans (KeepsOthers.setCell _ _ _)).trans (KeepsOthers.setCell _ _ _)
      have HD0 := Lib.hid d0
      have HD1 := Lib.hid d1
      have HD2 := Lib.hid d2
      have HDB := Lib.hid dB
      have HDK := Lib.hid dK
      clear d0 d1 d2 dB dK
      gi_region
      all_goals gi_wp2
      all_goals exact ⟨(HDK.out.trans (KeepsOthers.drew _)).from _, pre, x, ⟨rfl, rfl, HX0.out, hk⟩, ⟨HD0.out, HD1.out, HD2.out⟩, HDB.out.drew⟩
    · have hx1 : (x.f0 == 0) = false := by simpa using hx0
      obtain ⟨i0, hi, hz0, hz1, hz2⟩ := info_parts info31
      obtain ⟨h0R, inner, hown, hreps⟩ := cR
      have hlen := seqOf_len s 0
      have hsB : w.heap.size ≤ W.heap.size := by omega
      have hBo : w.heap.size ≤ w.heap.size + 1 + 1 + 1 := by omega
      have hnew : (W.alloc (.cells #[.int .i64 x.f0, .string x.f1, .int .i64 x.f2] 31)).heap[W.heap.size]? = some (.cells #[.int .i64 x.f0, .string x.f1, .int .i64 x.f2] 31 (0, 0)) := World.alloc_heap_new W _
      have hnews : ∀ (j : Nat) (u : Value), [Value.int .i64 x.f0, .string x.f1, .int .i64 x.f2][j]? = some u → (W.alloc (.cells #[.int .i64 x.f0, .string x.f1, .int .i64 x.f2] 31)).cell? ((⟨W.heap.size, 0, none⟩ : Addr).add j) = some u := by
        intro j u hj
        have hj3 : j < 3 := by
          rcases Nat.lt_or_ge j 3 with h' | h'
          · exact h'
          · rw [List.getElem?_eq_none (by simpa using h')] at hj; cases hj
        match j, hj3, hj with
        | 0, _, hj => simp at hj; subst hj; exact (blk_cell hnew 0).trans rfl
        | 1, _, hj => simp at hj; subst hj; exact (blk_cell hnew 1).trans rfl
        | 2, _, hj => simp at hj; subst hj; exact (blk_cell hnew 2).trans rfl
      gi_wp2_with (gi_at_builtin; refine wpListIn_append_own_at _ rfl _ _ 23 rfl w.heap.size 31 i0 _ 3 32 Try.underlying23 hi hz0 hz1 hz2 rfl (by decide) _ _ _ rfl (hown.alloc _) ⟨W.heap.size, 0, none⟩ 1 1 [.int .i64 x.f0, .string x.f1, .int .i64 x.f2] rfl rfl hnews (by simp [Value.oneCell']) (by unfold maxLen; omega) (by omega) (by simp; omega) ?_; intro v' w1 hown' hgrow _ hat; obtain ⟨g', cap', rfl⟩ := ownsRow_succ hown'; obtain ⟨hv1, hv2, hr2, hk2, hb2⟩ := Boxed.appended c3 (by decide) hown hsB hBo hown' hgrow; have hcv := hv1.cell; have hfv := hv1.frozen)
      have hg' : W.grownBy w1 v.ownBlock := World.grownBy.trans (World.grownBy_alloc W _ _) hgrow
      have hat' : (Value.slice (some ⟨g', 0, none⟩) (pre.length + 1) cap').ownBlock = v.ownBlock ∨ ∃ b, (Value.slice (some ⟨g', 0, none⟩) (pre.length + 1) cap').ownBlock = some b ∧ W.heap.size ≤ b := by
        rcases hat with h' | h'
        · exact .inl h'
        · exact .inr ⟨_, h', by simp⟩
      have hRn := Kd.R_appended (d := k31) (ok := fun _ => True) (okp := fun _ => False) h0R hreps (k31_mkM W w.heap.size _ x) (fun k hk => hk.elim) (fun k _ => trivial) hown' hg' hat'
      have hsz1 : W.heap.size ≤ w1.heap.size := hg'.size
      have kp : ∀ {b t : Nat} {u : Value}, Boxed W b t u → t ≠ 31 → b ≠ w.heap.size + 1 + 1 + 1 → Boxed (w1.setCell ⟨w.heap.size + 1 + 1 + 1, 0, none⟩ (.slice (some ⟨g', 0, none⟩) (pre.length + 1) cap')) b t u :=
        fun hb ht hne => (hb.kept hg' (hb.not_row ht hown)).other hne _
      exact ⟨hk2.from _, KpL.appended (by omega) c3 hown hgrow hv1 hown' hat,
        ⟨⟨kp c0 (by decide) (by omega), kp c1 (by decide) (by omega), kp c2 (by decide) (by omega)⟩, _, hv2, R_setBox hRn hv1 (by decide) _⟩,
        (fun y hy => by
          rcases List.mem_append.mp hy with h' | h'
          · exact hk y h'
          · rw [List.mem_singleton] at h'; subst h'; exact hx0), by simp [World.setCell]; omega, hbl.trans hb2⟩
  case done =>
    rintro D xs W hD hxs ⟨⟨⟨c0, c1, c2⟩, v, c3, cR⟩, hk, hsW, hbl⟩ hK
    have hr2 : r1 = xs ∧ r2 = 0 ∧ r3 = 0 := Lex_end hs HR.out hxs hk
    obtain ⟨rfl, rfl, rfl⟩ := hr2
    clear hxs hk HR
    obtain ⟨A, cap, rfl⟩ := own_slice (Kd.R_own cR).choose_spec
    have cc3 := c3.cell
    have cf0 := c0.frozen
    have cf1 := c1.frozen
    have cf2 := c2.frozen
    have cc0 := c0.cell
    have cc1 := c1.cell
    have cc2 := c2.cell
    have d0 : Boxed (((W.setCell ⟨w.heap.size, 0, none⟩ (.slice A r1.length cap)).setCell ⟨w.heap.size + 1, 0, none⟩ (.int .i64 0)).setCell ⟨w.heap.size + 1 + 1, 0, none⟩ (.int .i64 0)) w.heap.size 23 (.slice A r1.length cap) := ((c0.set _).other (by omega) _).other (by omega) _
    have d1 : Boxed (((W.setCell ⟨w.heap.size, 0, none⟩ (.slice A r1.length cap)).setCell ⟨w.heap.size + 1, 0, none⟩ (.int .i64 0)).setCell ⟨w.heap.size + 1 + 1, 0, none⟩ (.int .i64 0)) (w.heap.size + 1) 3 (.int .i64 0) := ((c1.other (by omega) _).set _).other (by omega) _
    have d2 : Boxed (((W.setCell ⟨w.heap.size, 0, none⟩ (.slice A r1.length cap)).setCell ⟨w.heap.size + 1, 0, none⟩ (.int .i64 0)).setCell ⟨w.heap.size + 1 + 1, 0, none⟩ (.int .i64 0)) (w.heap.size + 1 + 1) 24 (.int .i64 0) := ((c2.other (by omega) _).other (by omega) _).set _
    have dB : Below w.heap.size w (((W.setCell ⟨w.heap.size, 0, none⟩ (.slice A r1.length cap)).setCell ⟨w.heap.size + 1, 0, none⟩ (.int .i64 0)).setCell ⟨w.heap.size + 1 + 1, 0, none⟩ (.int .i64 0)) :=
      ((hbl.setCell (p := ⟨w.heap.size, 0, none⟩) (Nat.le_refl _) _).setCell (p := ⟨w.heap.size + 1, 0, none⟩) (by simp) _).setCell (p := ⟨w.heap.size + 1 + 1, 0, none⟩) (by simp; omega) _
    have dR := R_setBox (R_setBox (R_setBox cR c0 (by decide) (.slice A r1.length cap)) (c1.other (by omega) _) (by decide) (.int .i64 0)) ((c2.other (by omega) _).other (by omega) _) (by decide) (.int .i64 0)
    have dK := (((KeepsOthers.setCell W ⟨w.heap.size, 0, none⟩ (.slice A r1.length cap)).trans (KeepsOthers.setCell _ ⟨w.heap.size + 1, 0, none⟩ (.int .i64 0))).trans (KeepsOthers.setCell _ ⟨w.heap.size + 1 + 1, 0, none⟩ (.int .i64 0))).same D _ hK rfl
    have HD0 := Lib.hid d0
    have HD1 := Lib.hid d1
    have HD2 := Lib.hid d2
    have HDB := Lib.hid dB
    have HDR := Lib.hid dR
    have HDK := Lib.hid dK
    clear d0 d1 d2 dB dR dK
    gi_wp2
    refine ⟨by simp, .inl ⟨_, _, rfl, run_takeDeferred HDK.out, ?_⟩⟩
    exact ⟨_, results12 rfl rfl rfl (putD _ HDK.out HD0.out) (putD _ HDK.out HD1.out) (putD _ HDK.out HD2.out), _, rfl, R_turn HDR.out (grownBy_putObj' _ D _) (fun r e => by cases e; exact ⟨_, HDK.out, rfl⟩),
      HDB.out.trans (belowK_b (w := w) (Nat.le_refl _) _ D _ _ (by omega) HDK.out rfl rfl)⟩
  case stop =>
    rintro D c pre W hD hp ⟨q, x, ⟨rfl, rfl, hx0, hq⟩, ⟨c0, c1, c2⟩, hbl⟩ hK
    have cc0 := c0.cell
    have cc1 := c1.cell
    have cc2 := c2.cell
    have hr2 := Lex_left hs HR.out hp hx0
    obtain ⟨rfl, rfl, rfl⟩ := hr2
    clear HR hp hx0 hq
    gi_wp2
    refine ⟨by simp, .inl ⟨_, _, rfl, run_takeDeferred hK, ?_⟩⟩
    exact ⟨_, results12 rfl rfl rfl (putD _ hK c0) (putD _ hK c1) (putD _ hK c2), _, rfl, Kd.R_nil _ _ _ _ _,
      hbl.trans (belowK_b (w := w) (Nat.le_refl _) W D _ _ (by omega) hK rfl rfl)⟩

set_option maxRecDepth 100000 in
/-- A text that is too long. -/
theorem Lex_long (s : ByteArray) (hs : 20000 < s.size) (w : World) :
    Calls Try.prog 12 #[.string s] w fun e w' => ∃ v0_ : Value, e = .returned (.tuple #[v0_, .int .i64 0, .int .i64 3]) ∧ Kd.R k31 31 w' w.heap.size (fun _ => True) v0_ [] ∧ Below w.heap.size w w' := by
  have hc9 : decide ((20000 : Int) < (s.size : Int)) = true := decide_eq_true (by omega)
  go_enter Try.func12, Try.ntmps12
  go_wp2
  have b0 := ((Boxed.new w 23 (.slice none 0 0)).alloc (.cells #[.int .i64 0] 3)).alloc (.cells #[.int .i64 3] 24)
  have b1 := (Boxed.new (w.alloc (.cells #[.slice none 0 0] 23)) 3 (.int .i64 0)).alloc (.cells #[.int .i64 3] 24)
  have b2 := Boxed.new ((w.alloc (.cells #[.slice none 0 0] 23)).alloc (.cells #[.int .i64 0] 3)) 24 (.int .i64 3)
  simp only [World.size_alloc] at b1 b2
  exact bodyPost_ret (results12 rfl rfl rfl b0 b1 b2) rfl ⟨_, rfl, Kd.R_nil _ _ _ _ _, (((Below.refl _ w).alloc (Nat.le_refl _) _).alloc (by simp) _).alloc (by simp; omega) _⟩
theorem token_Lex.calls (a0 : ByteArray) (r1 : List (S31)) (r2 : Int) (r3 : Int) (w : World) (h : token_Lex.f a0 = some (r1, r2, r3)) :
    Calls Try.prog 12 #[.string a0] w fun e w' => ∃ v0_ : Value, e = .returned (.tuple #[v0_, .int .i64 r2, .int .i64 r3]) ∧ Kd.R k31 31 w' w.heap.size (fun _ => True) v0_ r1 ∧ Below w.heap.size w w' := by
  by_cases hl : 20000 < a0.size
  · unfold token_Lex.f at h
    rw [if_pos hl] at h
    simp only [Option.some.injEq, Prod.mk.injEq] at h
    obtain ⟨rfl, rfl, rfl⟩ := h
    exact Lex_long a0 hl w
  · obtain ⟨s, rfl⟩ := ba_surj a0
    exact callsIn_wide.1 (Lex_in 3 (Nat.le_refl _) s (by rw [ba_size] at hl; omega) w r1 r2 r3 h)
end Go.Proofs.Ytpccakfbmbkmlaa.PAll
