/- One end of a channel: New, and what only reads. Conditions: the end is one that New made. -/
import Derived.Test.YtommobflhnphnaaCD
namespace Go.Proofs.Ytommobflhnphnaa.C
open Go.RowKit Go.Proofs.Ytommobflhnphnaa.P Go.Proofs.YtommobflhnphnaaBase Go.Proofs.YtommobflhnphnaaW.PrintWords Go.Proofs.YtommobflhnphnaaW.PrintLast Go.Maps
set_option linter.unusedVariables false
set_option linter.unusedSimpArgs false

section
variable {n0 : Nat} {W : World} {b m : Nat} {c : Ch}
set_option maxHeartbeats 4000000 in
theorem dead_c (h : ChanAt n0 W b m c) (hc : c.conn ≠ 0) : Calls Try.prog 37 #[.pointer (some ⟨b, 0, none⟩)] W fun e w' => e = .returned (.bool false) ∧ Below W.heap.size W w' := by
  obtain ⟨A, cap, hd, hq, hcap⟩ := h.d
  obtain ⟨x0, x1, x2, x3, x4, x5⟩ := boxed6 hd
  have H := Lib.hid h
  clear h hd hq
  have E5 : (c.conn == 0) = false := by simpa using hc
  clear hc
  go_enter Try.func37, Try.ntmps37
  go_wp2
  go_ret
  exact ⟨rfl, Below.refl _ _⟩
set_option maxHeartbeats 4000000 in
theorem conn_c (h : ChanAt n0 W b m c) (hc : c.conn ≠ 0) : Calls Try.prog 30 #[.pointer (some ⟨b, 0, none⟩)] W fun e w' => e = .returned (.int .i64 c.conn) ∧ Below W.heap.size W w' := by
  obtain ⟨A, cap, hd, hq, hcap⟩ := h.d
  obtain ⟨x0, x1, x2, x3, x4, x5⟩ := boxed6 hd
  have H := Lib.hid h
  clear h hd hq
  have E5 : (c.conn == 0) = false := by simpa using hc
  clear hc
  go_enter Try.func30, Try.ntmps30
  go_wp2
  go_ret
  exact ⟨rfl, Below.refl _ _⟩
set_option maxHeartbeats 4000000 in
theorem waiting_c (h : ChanAt n0 W b m c) (hc : c.conn ≠ 0) : Calls Try.prog 18 #[.pointer (some ⟨b, 0, none⟩)] W fun e w' => e = .returned (.int .i64 c.q.length) ∧ Below W.heap.size W w' := by
  obtain ⟨A, cap, hd, hq, hcap⟩ := h.d
  obtain ⟨x0, x1, x2, x3, x4, x5⟩ := boxed6 hd
  have H := Lib.hid h
  have HC := Lib.hid hc
  clear h hd hq hc
  go_enter Try.func18, Try.ntmps18
  go_wp2_with (first
    | (go_at_call 37; (with_reducible refine (dead_c H.out HC.out).mono ?_); rintro e w2 ⟨rfl, hbb⟩; obtain ⟨A2, cap2, hd2, hq2, hcap2⟩ := (H.out.below hbb).d; obtain ⟨y0, y1, y2, y3, y4, y5⟩ := boxed6 hd2))
  go_ret
  exact ⟨rfl, hbb⟩
set_option maxHeartbeats 4000000 in
theorem taken_c (h : ChanAt n0 W b m c) (hc : c.conn ≠ 0) (hw : 1 ≤ c.want ∧ c.want ≤ 1099511627777) : Calls Try.prog 17 #[.pointer (some ⟨b, 0, none⟩)] W fun e w' => e = .returned (.int .i64 (c.want - 1)) ∧ Below W.heap.size W w' := by
  obtain ⟨A, cap, hd, hq, hcap⟩ := h.d
  obtain ⟨x0, x1, x2, x3, x4, x5⟩ := boxed6 hd
  have H := Lib.hid h
  have HC := Lib.hid hc
  clear h hd hq hc
  obtain ⟨hw1, hw2⟩ := hw
  go_enter Try.func17, Try.ntmps17
  go_wp2_with (first
    | (go_at_call 37; (with_reducible refine (dead_c H.out HC.out).mono ?_); rintro e w2 ⟨rfl, hbb⟩; obtain ⟨A2, cap2, hd2, hq2, hcap2⟩ := (H.out.below hbb).d; obtain ⟨y0, y1, y2, y3, y4, y5⟩ := boxed6 hd2))
  go_ret
  exact ⟨rfl, hbb⟩
def calmB (c : Ch) : Bool := c.q.isEmpty && !c.owes
set_option maxHeartbeats 4000000 in
theorem calm_c (h : ChanAt n0 W b m c) (hc : c.conn ≠ 0) (hl : c.q.length ≤ 32) : Calls Try.prog 29 #[.pointer (some ⟨b, 0, none⟩)] W fun e w' => e = .returned (.bool (calmB c)) ∧ Below W.heap.size W w' := by
  obtain ⟨cn, nx, q, wt, el, ow⟩ := c
  cases q with
  | nil =>
    obtain ⟨A, cap, hd, hq, hcap⟩ := h.d
    obtain ⟨x0, x1, x2, x3, x4, x5⟩ := boxed6 hd
    have H := Lib.hid h
    have HC := Lib.hid hc
    clear h hd hq hc
    have E0 : ((([] : List Pa).length : Int) == 0) = true := rfl
    go_enter Try.func29, Try.ntmps29
    go_wp2_with (first
      | (go_at_call 37; (with_reducible refine (dead_c H.out HC.out).mono ?_); rintro e w2 ⟨rfl, hbb⟩; obtain ⟨A2, cap2, hd2, hq2, hcap2⟩ := (H.out.below hbb).d; obtain ⟨y0, y1, y2, y3, y4, y5⟩ := boxed6 hd2))
    go_ret
    exact ⟨rfl, hbb⟩
  | cons p r =>
    obtain ⟨A, cap, hd, hq, hcap⟩ := h.d
    obtain ⟨x0, x1, x2, x3, x4, x5⟩ := boxed6 hd
    have H := Lib.hid h
    have HC := Lib.hid hc
    clear h hd hq hc
    have E0 : ((((p :: r) : List Pa).length : Int) == 0) = false := by simp; omega
    have E1 : (((r.length : Int) + 1) == 0) = false := by simp; omega
    go_enter Try.func29, Try.ntmps29
    go_wp2_with (first
      | (go_at_call 37; (with_reducible refine (dead_c H.out HC.out).mono ?_); rintro e w2 ⟨rfl, hbb⟩; obtain ⟨A2, cap2, hd2, hq2, hcap2⟩ := (H.out.below hbb).d; obtain ⟨y0, y1, y2, y3, y4, y5⟩ := boxed6 hd2))
    go_ret
    exact ⟨rfl, hbb⟩
end
theorem old_blk' (w : World) {g : Nat} (hg : g < w.heap.size) (o : Obj) : (w.alloc o).heap[g]? = w.heap[g]? := (below_alloc (Below.refl w.heap.size w) o).block g hg
def ch0 (conn : Int) : Ch := ⟨conn, 1, [], 1, [], false⟩
def NewOut (W : World) (conn : Int) (e : Ending) (w' : World) : Prop := ∃ b m, e = .returned (.tuple #[.pointer (some ⟨b, 0, none⟩), .int .i64 0]) ∧ ChanAt W.heap.size w' b m (ch0 conn) ∧ Below W.heap.size W w' ∧ b ≠ m
set_option maxHeartbeats 4000000 in
theorem new_c (W : World) (conn : Int) (h1 : 1 ≤ conn) (h2 : conn ≤ 1099511627776) : Calls Try.prog 19 #[.int .i64 conn] W (NewOut W conn) := by
  have hmm := @run_makeMap Try.prog
  go_enter Try.func19, Try.ntmps19
  go_wp2
  go_ret2
  refine ⟨W.heap.size + 1, W.heap.size, rfl, ⟨⟨none, 0, ?_, fun h => absurd rfl h, Nat.le_refl _⟩, ?_, by omega, Nat.le_refl _⟩, below_alloc (below_alloc (Below.refl _ _) _) _, by omega⟩
  · have hh := new_blk (W.alloc (.map #[] 0)) (.cells #[.int .i64 1, .slice none 0 0, .int .i64 1, .map (some W.heap.size), .bool false, .int .i64 conn] 68)
    rw [show (W.alloc (.map #[] 0)).heap.size = W.heap.size + 1 by simp] at hh
    exact hh
  · exact (EM.made W).keep (old_blk' _ (by simp) _) (Kept.of (below_alloc (Below.refl _ _) _))
set_option maxHeartbeats 4000000 in
theorem new_no (W : World) (conn : Int) (h : conn < 1 ∨ 1099511627776 < conn) : Calls Try.prog 19 #[.int .i64 conn] W fun e w' => e = .returned (.tuple #[.pointer none, .int .i64 1]) ∧ Below W.heap.size W w' := by
  by_cases h1 : conn < 1
  · clear h
    go_enter Try.func19, Try.ntmps19
    go_wp2
    go_ret2
    exact ⟨rfl, Below.refl _ _⟩
  · have h2 : 1099511627776 < conn := by omega
    clear h
    go_enter Try.func19, Try.ntmps19
    go_wp2
    go_ret2
    exact ⟨rfl, Below.refl _ _⟩
end Go.Proofs.Ytommobflhnphnaa.C
