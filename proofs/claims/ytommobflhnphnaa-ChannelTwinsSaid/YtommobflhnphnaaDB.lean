/- Rows of frames held against each other; a script gone through by one end (the closure of ChannelTwins). Conditions: none. -/
import Derived.Test.YtommobflhnphnaaDA
namespace Go.Proofs.Ytommobflhnphnaa.C
open Go.RowKit Go.Proofs.Ytommobflhnphnaa.P Go.Proofs.YtommobflhnphnaaBase Go.Proofs.YtommobflhnphnaaW.PrintWords Go.Proofs.YtommobflhnphnaaW.PrintLast Go.Proofs.YtommobflhnphnaaW.PrintMore Go.Maps Go.Lib
set_option linter.unusedVariables false
set_option linter.unusedSimpArgs false

theorem same_frame {W : World} {x : S25} {A A' : Option Addr} {c c' : Nat} (h1 : Kd.C (Kd.int .u8) W A x.f3.length x.f3) (h2 : x.f3.length ≤ c) (h3 : Kd.C (Kd.int .u8) W A' x.f3.length x.f3) (h4 : x.f3.length ≤ c') : Calls Try.prog 28 #[.agg #[.int .i64 x.f0, .int .i64 x.f1, .int .i64 x.f2, .slice A x.f3.length c], .agg #[.int .i64 x.f0, .int .i64 x.f1, .int .i64 x.f2, .slice A' x.f3.length c']] W fun e w' => e = .returned (.bool true) ∧ Below W.heap.size W w' :=
  sealskinref13_SameFrame.calls x.f0 x.f1 x.f2 A c x.f3 x.f0 x.f1 x.f2 A' c' x.f3 true W h1 h2 h3 h4 (by unfold sealskinref13_SameFrame.f; rw [if_pos rfl, if_pos rfl, if_pos rfl]; simp)
set_option maxHeartbeats 8000000 in
set_option maxRecDepth 100000 in
theorem same_c (w : World) (A B : Option Addr) (n ca cb : Nat) (xs : List S25) (h1 : Kd.C k25 w A n xs) (h2 : Kd.C k25 w B n xs) (hn : n ≤ 1000000) : Calls Try.prog 27 #[.slice A n ca, .slice B n cb, .func (.func 28) #[] #[]] w fun e w' => e = .returned (.bool true) ∧ Below w.heap.size w w' := by
  have HA := Lib.hid h1
  have HB := Lib.hid h2
  clear h1 h2
  go_enter Try.func27, Try.ntmps27
  go_wp2
  go_loopw [17] (fun i wr => ∃ k : Nat, k ≤ n ∧ i = .int .i64 k ∧ Hid (Below w.heap.size w wr)) (fun i _ => n - (intOf i).toNat)
  case atStart => exact ⟨0, Nat.zero_le _, rfl, Lib.hid (Below.refl _ _)⟩
  case round =>
    obtain ⟨k, hk, rfl, BB⟩ := hrel
    by_cases hkn : k < n
    · obtain ⟨x, hx⟩ : ∃ x, Hid (rd_T25 xs (k : Int) = x) := ⟨_, Lib.hid rfl⟩
      obtain ⟨ad, A3, c3, rfl, p0, p1, p2, p3, p4, p5⟩ := at_T25 (Kd.C_below HA.out BB.out) (k : Int) (by omega) (by omega)
      obtain ⟨bd, B3, d3, rfl, q0, q1, q2, q3, q4, q5⟩ := at_T25 (Kd.C_below HB.out BB.out) (k : Int) (by omega) (by omega)
      rw [hx.out] at p0 p1 p2 p3 p4 p5 q0 q1 q2 q3 q4 q5
      rw [Int.toNat_natCast] at p0 p1 p2 p3 q0 q1 q2 q3
      have r0 := old_cell q0 (.cells #[.int .i64 x.f0, .int .i64 x.f1, .int .i64 x.f2, .slice A3 x.f3.length c3] 25)
      have r1 := old_cell q1 (.cells #[.int .i64 x.f0, .int .i64 x.f1, .int .i64 x.f2, .slice A3 x.f3.length c3] 25)
      have r2 := old_cell q2 (.cells #[.int .i64 x.f0, .int .i64 x.f1, .int .i64 x.f2, .slice A3 x.f3.length c3] 25)
      have r3 := old_cell q3 (.cells #[.int .i64 x.f0, .int .i64 x.f1, .int .i64 x.f2, .slice A3 x.f3.length c3] 25)
      have hb2 := below_alloc (below_alloc (Below.refl wr.heap.size wr) (.cells #[.int .i64 x.f0, .int .i64 x.f1, .int .i64 x.f2, .slice A3 x.f3.length c3] 25)) (.cells #[.int .i64 x.f0, .int .i64 x.f1, .int .i64 x.f2, .slice B3 x.f3.length d3] 25)
      have P5 := Lib.hid (Kd.C_below p5 hb2)
      have Q5 := Lib.hid (Kd.C_below q5 hb2)
      have P4 := Lib.hid p4
      have Q4 := Lib.hid q4
      have HB2 := Lib.hid (below_step BB.out hb2)
      clear p4 p5 q4 q5 hb2
      go_wp2_with (first
        | (go_at_call 28; (with_reducible refine (same_frame P5.out P4.out Q5.out Q4.out).mono ?_); rintro e w3 ⟨rfl, hb3⟩; have HB3 := Lib.hid (below_step HB2.out hb3); clear hb3))
      go_roundw
      case rel => exact ⟨k + 1, by omega, by go_num, HB3⟩
      case measure => simp [intOf]; omega
    · have hkl : k = n := by omega
      subst hkl
      go_wp2
      go_ret
      exact ⟨rfl, BB.out⟩
def stepC (c : Ch) (k : S28) : Ch :=
  if opm k.f0 = 0 ∨ opm k.f0 = 1 then (sendF c k.f1.f3).1 else if opm k.f0 = 2 ∨ opm k.f0 = 3 then (takeF c k.f1).1 else if opm k.f0 = 4 then { c with q := c.q.map tickP } else outC c
def stepO (c : Ch) (k : S28) : List S25 := if opm k.f0 = 5 then outR c else []
def playC (c : Ch) : List S28 → Ch
  | [] => c
  | k :: r => playC (stepC c k) r
def playO (c : Ch) : List S28 → List S25
  | [] => []
  | k :: r => stepO c k ++ playO (stepC c k) r
theorem playC_take (l : List S28) : ∀ (c : Ch) (k : Nat) (K : S28), l[k]? = some K → playC c (l.take (k + 1)) = stepC (playC c (l.take k)) K ∧ playO c (l.take (k + 1)) = playO c (l.take k) ++ stepO (playC c (l.take k)) K := by
  induction l with
  | nil => intro c k K h; simp at h
  | cons a r ih =>
    intro c k K h
    cases k with
    | zero =>
      have : a = K := by simpa using h
      subst this
      simp [playC, playO]
    | succ k =>
      obtain ⟨h1, h2⟩ := ih (stepC c a) k K (by simpa using h)
      constructor
      · rw [List.take_succ_cons, List.take_succ_cons]
        exact h1
      · rw [List.take_succ_cons, List.take_succ_cons]
        show stepO c a ++ playO (stepC c a) (r.take (k + 1)) = _
        rw [h2]
        show _ = (stepO c a ++ playO (stepC c a) (r.take k)) ++ _
        rw [List.append_assoc]
        rfl
theorem stepC_conn (c : Ch) (k : S28) : (stepC c k).conn = c.conn := by
  unfold stepC
  split
  · exact send_conn _ _
  split
  · exact take_connF _ _
  split
  · rfl
  · rfl
theorem stepO_len (c : Ch) (k : S28) : (stepO c k).length ≤ 4 := by
  unfold stepO
  split
  · exact outR_len c
  · simp
theorem playO_len (l : List S28) : ∀ c, (playO c l).length ≤ 4 * l.length := by
  induction l with
  | nil => intro c; simp [playO]
  | cons a r ih =>
    intro c
    have h1 := stepO_len c a
    have h2 := ih (stepC c a)
    show (stepO c a ++ playO (stepC c a) r).length ≤ 4 * (a :: r).length
    rw [List.length_append, List.length_cons]
    omega
/-- a row of frames, as a source that is appended -/
theorem rows_src {W : World} {b1 : Nat} {u : Value} {ys : List S25} (h : Kd.R k25 25 W b1 (fun _ => True) u ys) (bb s0 : Nat) (hb : bb ≤ b1) (hs : s0 ≤ b1) : ∃ A c, u = .slice A ys.length c ∧ ReadsRow (k25.M W bb (fun k => s0 ≤ k ∧ ∃ cells, W.heap[k]? = some (.cells cells 5 (0, 0)))) 4 W A ys.length ys := by
  obtain ⟨A, c, e, _, h2⟩ := OwnRow.reads h.2
  refine ⟨A, c, e, ReadsRow.imp_ h2 (Below.refl _ _) (fun p cs hp => ?_)⟩
  refine k25.M_lower hb (k25.M_mono (fun k hk => ?_) (k25.M_bound hp))
  obtain ⟨_, h3, _, q, hq, cells, hc⟩ := hk
  have : q = 5 := by simpa [k25, Kd.iso, Kd.pair, Kd.int, Kd.scalar, Kd.slice] using hq
  subst this
  exact ⟨Nat.le_trans hs h3, cells, hc⟩
/-- what stands while one end goes through a script: the end, and the frames that it sent -/
structure PL (w W0 W : World) (b m : Nat) (c : Ch) (t : Int) (v : Value) (acc : List S25) : Prop where
  lp : LP w W b m c t
  r : Kd.R k25 25 W w.heap.size (fun k => W0.heap.size ≤ k) v acc
  o : Ons (two b m) W0 W
theorem PL.below {w W0 W W' : World} {b m : Nat} {c : Ch} {t : Int} {v : Value} {acc : List S25} (h : PL w W0 W b m c t v acc) (hb : Below W.heap.size W W') : PL w W0 W' b m c t v acc := ⟨h.lp.below hb, Kd.R_below h.r hb, h.o.step (Ons.of hb)⟩
theorem PL.turn {w W0 W W' : World} {b m : Nat} {c c' : Ch} {t t' : Int} {v : Value} {acc : List S25} (h : PL w W0 W b m c t v acc) (hl : LP w W' b m c' t') (ho : Ons (two b m) W W') : PL w W0 W' b m c' t' v acc := ⟨hl, R25_kept h.r (h.lp.ch.two_kept ho 25 (by decide)) (h.lp.ch.two_kept ho 5 (by decide)), h.o.step ho⟩
end Go.Proofs.Ytommobflhnphnaa.C
