/- The desk's Seats: how many sessions stand at a label. Conditions: the desk is one that New made. -/
import Derived.Test.YtkfjolhlnhbgjaaDX
namespace Go.Proofs.Ytkfjolhlnhbgjaa.D
open Go.RowKit Go.Proofs.Ytkfjolhlnhbgjaa.P Go.Proofs.YtkfjolhlnhbgjaaBase Go.Proofs.YtkfjolhlnhbgjaaW.PrintWords Go.Proofs.Ytkfjolhlnhbgjaa.Q Go.Proofs.Ytkfjolhlnhbgjaa.L
set_option linter.unusedVariables false
set_option linter.unusedSimpArgs false

def sits (p : Pol) (gs : List G) (label : Int) (k : Nat) : Bool := (gs.getD k g0).opn && ((p.es.getD k z48).f0 == label)
def seatsN (p : Pol) (gs : List G) (label : Int) : Nat → Int
  | 0 => 0
  | k + 1 => seatsN p gs label k + (if sits p gs label k = true then 1 else 0)
theorem seatsN_le (p : Pol) (gs : List G) (label : Int) (k : Nat) : 0 ≤ seatsN p gs label k ∧ seatsN p gs label k ≤ k := by
  induction k with
  | zero => simp [seatsN]
  | succ k ih => simp only [seatsN]; split <;> omega
theorem at48 {w wr : World} {A : Option Addr} {l : List S48} (hr : Kd.C k48 w A l.length l) (hB : Below w.heap.size w wr) (k : Nat) (hk : k < l.length) :
    ∃ ad, A = some ad ∧ wr.cell? (ad.add (k * 3)) = some (.int .i64 (l.getD k z48).f0) ∧ wr.cell? ⟨(ad.add (k * 3)).block, (ad.add (k * 3)).off + 1, none⟩ = some (.string (l.getD k z48).f1) ∧ wr.cell? ⟨(ad.add (k * 3)).block, (ad.add (k * 3)).off + 2, none⟩ = some (.bool (l.getD k z48).f2) := by
  obtain ⟨ad, e, h0, h1, h2⟩ := at_T48 hr k (by omega) (by omega)
  simp only [rd_T48, Int.toNat_natCast] at h0 h1 h2
  exact ⟨ad, e, (hB.cell (World.block_lt_of_cell? w _ h0)).trans h0, (hB.cell (World.block_lt_of_cell? w _ h1)).trans h1, (hB.cell (World.block_lt_of_cell? w _ h2)).trans h2⟩
set_option maxHeartbeats 4000000 in
theorem seats_c {n0 : Nat} {W : World} {b : Nat} {p : Pol} {y : PAt} {bl : Nat} {gs : List G} (h : DeskAt n0 W b p y bl gs) (hn : gs.length ≤ 8) (he : p.es.length = gs.length) (label : Int) :
    Calls Try.prog 15 #[.pointer (some ⟨b, 0, none⟩), .int .i64 label] W fun e w' => e = .returned (.int .i64 (seatsN p gs label gs.length)) ∧ Below W.heap.size W w' := by
  obtain ⟨Y0, d0, Y1, d1, Y2, d2⟩ := y
  obtain ⟨x0, x1, x2, x3, x4⟩ := boxed5 h.d
  have H := Lib.hid h
  have HE := Lib.hid he
  clear h he
  go_enter Try.func15, Try.ntmps15
  go_wp2
  go_loopw [5, 16] (fun s i wr => ∃ (k : Nat) (sn : Int), k ≤ gs.length ∧ s = .int .i64 sn ∧ i = .int .i64 k ∧ Hid (seatsN p gs label k = sn) ∧ Below W.heap.size W wr) (fun _ i _ => gs.length - (intOf i).toNat)
  case atStart => exact ⟨0, 0, Nat.zero_le _, rfl, rfl, Lib.hid rfl, Below.refl _ _⟩
  case round =>
    obtain ⟨k, sn, hk, rfl, rfl, hsn, hB⟩ := hrel
    have D0 := Lib.hid (H.out.below hB)
    obtain ⟨x0, x1, x2, x3, x4⟩ := boxed5 D0.out.d
    have hsl := seatsN_le p gs label k
    rw [hsn.out] at hsl
    by_cases hlt : k < gs.length
    · have hlt2 : k < p.es.length := by have := HE.out; omega
      obtain ⟨c0, c1, c2, c3, c4⟩ := D0.out.guest k hlt
      obtain ⟨ad, rfl, e0, e1, e2⟩ := at48 D0.out.o.pin.h2 (Below.refl _ _) k hlt2
      obtain ⟨g, hg⟩ : ∃ g, Hid (gs.getD k g0 = g) := ⟨_, Lib.hid rfl⟩
      obtain ⟨en, hen⟩ : ∃ e, Hid (p.es.getD k z48 = e) := ⟨_, Lib.hid rfl⟩
      rw [hg.out] at c0 c1 c2 c3 c4
      rw [hen.out] at e0 e1 e2
      have zb := lt_blk D0.out.d
      have zl := lt_blk D0.out.g
      have ze := World.block_lt_of_cell? _ _ e0
      have hst : seatsN p gs label (k + 1) = sn + (if (g.opn && (en.f0 == label)) = true then 1 else 0) := by simp only [seatsN, sits, hg.out, hen.out, hsn.out]
      have HST := Lib.hid hst
      clear hst
      cases ho : g.opn
      · go_wp2
        go_roundw
        case rel => exact ⟨k + 1, _, by omega, rfl, by go_num, Lib.hid (by rw [HST.out, ho]; simp), below_alloc hB _⟩
        case measure => simp [intOf]; omega
      · cases hl : (en.f0 == label)
        all_goals
          go_wp2
          go_roundw
          case rel => exact ⟨k + 1, _, by omega, by first | rfl | go_num, by go_num, Lib.hid (by rw [HST.out, ho, hl]; simp), below_alloc hB _⟩
          case measure => simp [intOf]; omega
    · have hkl : k = gs.length := by omega
      subst hkl
      go_wp2
      go_ret
      exact ⟨by rw [hsn.out]; rfl, hB⟩
end Go.Proofs.Ytkfjolhlnhbgjaa.D
