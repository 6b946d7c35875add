/- What the other end has is taken away: acked. Conditions: the end is one that New made. -/
import Derived.Test.YtommobflhnphnaaCG
namespace Go.Proofs.Ytommobflhnphnaa.C
open Go.RowKit Go.Proofs.Ytommobflhnphnaa.P Go.Proofs.YtommobflhnphnaaBase Go.Proofs.YtommobflhnphnaaW.PrintWords Go.Proofs.YtommobflhnphnaaW.PrintLast Go.Maps Go.Lib
set_option linter.unusedVariables false
set_option linter.unusedSimpArgs false

def ackedF (ack : Int) : List Pa → List Pa
  | [] => []
  | p :: r => if p.seq ≤ ack ∧ p.sent = true then ackedF ack r else p :: r
theorem QAt.head {W : World} {A : Option Addr} {p : Pa} {r : List Pa} (h : QAt W A (p :: r)) : ∃ g off cs, A = some ⟨g, off, none⟩ ∧ W.heap[g]? = some (.cells cs 84 (0, 0)) ∧ W.cell? ⟨g, off, none⟩ = some (.int .i64 p.seq) ∧ W.cell? ⟨g, off + 2, none⟩ = some (.bool p.sent) ∧ ∀ n, QAt W (some ⟨g, off + 5, n⟩) r ∨ n ≠ none := by
  obtain ⟨g, off, cs, rfl, h2, h3⟩ := h (by simp)
  obtain ⟨vb, e0, e1, _, e2, _⟩ := h3 0 p rfl
  refine ⟨g, off, cs, rfl, h2, by rw [cell_blk h2]; simpa using e0, by rw [cell_blk h2]; simpa using e2, fun n => ?_⟩
  cases n with
  | some _ => exact .inr (by simp)
  | none =>
    refine .inl (fun _ => ⟨g, off + 5, cs, rfl, h2, fun k p' hp => ?_⟩)
    have := h3 (k + 1) p' (by simpa using hp)
    rw [show off + (k + 1) * 5 = off + 5 + k * 5 by omega] at this
    exact this
theorem ChanAt.queue {n0 : Nat} {W : World} {b m : Nat} {c : Ch} (h : ChanAt n0 W b m c) {A : Option Addr} {cap : Nat} {q : List Pa} (hq : QAt W A q) (hcap : q.length ≤ cap) : ChanAt n0 (W.setCell ⟨b, 1, none⟩ (.slice A q.length cap)) b m { c with q := q } := by
  obtain ⟨⟨A0, cap0, h1, h2, h3⟩, h4, h5, h6⟩ := h
  have k5 : ∀ t : TypeId, t ≠ 68 → Kept t W (W.setCell ⟨b, 1, none⟩ (.slice A q.length cap)) := fun t ht g cs hg => by
    refine far_blk hg (fun e => ?_) _
    simp only at e
    rw [e, h1] at hg
    simp only [Option.some.injEq, Obj.cells.injEq] at hg
    exact ht hg.2.1.symm
  refine ⟨⟨A, cap, ?_, hq.keep (k5 5 (by decide)) (k5 84 (by decide)), hcap⟩, h4.keep ?_ (k5 5 (by decide)), h5, h6⟩
  · exact set_blk (k := 1) h1 _
  · obtain ⟨D, ⟨es, clock, h7, _⟩, _⟩ := h4.own
    rw [h7]
    exact far_blk h7 (fun e => by simp only at e; rw [e, h1] at h7; cases h7) _
theorem dead_two {b m : Nat} : two b m b := .inl rfl
set_option maxHeartbeats 8000000 in
theorem acked_c {n0 : Nat} {W : World} {b m : Nat} {c : Ch} (h : ChanAt n0 W b m c) (hl : c.q.length ≤ 32) (ack : Int) : Calls Try.prog 38 #[.pointer (some ⟨b, 0, none⟩), .int .i64 ack] W fun e w' => e = .returned (.tuple #[]) ∧ ChanAt n0 w' b m { c with q := ackedF ack c.q } ∧ Ons (two b m) W w' := by
  have H := Lib.hid h
  clear h
  go_enter Try.func38, Try.ntmps38
  go_wp2
  go_loopg [4] c.q.length (fun gk v4 wr => ∃ q : List Pa, gk = q.length ∧ q.length ≤ 32 ∧ Hid (ChanAt n0 wr b m { c with q := q }) ∧ Hid (ackedF ack q = ackedF ack c.q) ∧ Hid (Ons (two b m) W wr))
  case atStart => exact ⟨c.q, rfl, hl, H, Lib.hid rfl, Lib.hid (Ons.of (Below.refl _ _))⟩
  case round =>
    obtain ⟨q, hgk, hl2, D, hF, ON⟩ := hrel
    subst hgk
    obtain ⟨A, cap, hd, hq, hcap⟩ := D.out.d
    obtain ⟨x0, x1, x2, x3, x4, x5⟩ := boxed6 hd
    have z1 := free_blk hd 1
    have zb := lt_blk hd
    cases q with
    | nil =>
      go_wp2
      go_end0
      refine ⟨rfl, ?_, ON.out⟩
      rw [← hF.out]
      exact D.out
    | cons p r =>
      obtain ⟨g, off, cs, rfl, hg, k0, k2, htl⟩ := hq.head
      have zg := lt_blk hg
      have hr31 : r.length ≤ 31 := by simpa using hl2
      by_cases h1 : p.seq ≤ ack
      · cases hs : p.sent
        · have hfin : Hid (ackedF ack (p :: r) = p :: r) := Lib.hid (by simp only [ackedF]; rw [if_neg (by simp [hs])])
          go_wp2
          go_end0
          refine ⟨rfl, ?_, ON.out⟩
          rw [← hF.out, hfin.out]
          exact D.out
        · have hfin : Hid (ackedF ack (p :: r) = ackedF ack r) := Lib.hid (by simp only [ackedF]; rw [if_pos ⟨h1, hs⟩])
          have hcap1 : r.length + 1 ≤ cap := by simpa using hcap
          have hF2 : Hid (ackedF ack r = ackedF ack c.q) := Lib.hid (hfin.out.symm.trans hF.out)
          have hq5 : QAt wr (some ⟨g, off + 5, none⟩) r := by
            rcases htl none with h | h
            · exact h
            · exact absurd rfl h
          go_wp2
          all_goals
            go_roundg r.length
            case measure => simp
            case rel =>
              first
              | exact ⟨r, rfl, by omega, Lib.hid (D.out.queue hq5 (by omega)), hF2, Lib.hid (ON.out.step (Ons.put dead_two))⟩
              | exact ⟨r, rfl, by omega, Lib.hid (D.out.queue (q := r) (fun hne => absurd (List.eq_nil_of_length_eq_zero (by omega)) hne) (by omega)), hF2, Lib.hid (ON.out.step (Ons.put dead_two))⟩
      · have hfin : Hid (ackedF ack (p :: r) = p :: r) := Lib.hid (by simp only [ackedF]; rw [if_neg (fun h => h1 h.1)])
        go_wp2
        go_end0
        refine ⟨rfl, ?_, ON.out⟩
        rw [← hF.out, hfin.out]
        exact D.out
end Go.Proofs.Ytommobflhnphnaa.C
