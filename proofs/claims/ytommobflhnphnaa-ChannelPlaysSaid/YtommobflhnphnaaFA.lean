/- The reference's end in memory; its New and early. Conditions: none. -/
import Derived.Test.YtommobflhnphnaaGC
namespace Go.Proofs.Ytommobflhnphnaa.C
open Go.RowKit Go.Proofs.Ytommobflhnphnaa.P Go.Proofs.YtommobflhnphnaaBase Go.Proofs.YtommobflhnphnaaW.PrintWords Go.Proofs.YtommobflhnphnaaW.PrintLast Go.Proofs.YtommobflhnphnaaW.PrintMore Go.Maps Go.Lib
set_option linter.unusedVariables false
set_option linter.unusedSimpArgs false

def p0 : Pa := ⟨0, [], false, 0, false⟩
def paV (p : Pa) : Int × ByteArray × Bool × Int × Bool := (p.seq, strOfNums p.body, p.sent, p.age, p.due)
def k90 : Kd Pa := Kd.iso (Kd.pair (Kd.int .i64) (Kd.pair Kd.string (Kd.pair Kd.bool (Kd.pair (Kd.int .i64) Kd.bool)))) paV
def Pa.cells (p : Pa) : List Value := [.int .i64 p.seq, .string (strOfNums p.body), .bool p.sent, .int .i64 p.age, .bool p.due]
theorem Pa.clen (p : Pa) : p.cells.length = 5 := rfl
theorem k90_open {w : World} {x : Pa} {cs : List Value} (h : k90.K w x cs) : cs = x.cells := by
  obtain ⟨_, _, rfl, rfl, ⟨_, _, rfl, rfl, ⟨_, _, rfl, rfl, ⟨_, _, rfl, rfl, rfl⟩⟩⟩⟩ := h
  exact rfl
theorem k90_openM {w : World} {base : Nat} {ok : Nat → Prop} {x : Pa} {cs : List Value} (h : k90.M w base ok x cs) : cs = x.cells := by
  obtain ⟨_, _, rfl, rfl, ⟨_, _, rfl, rfl, ⟨_, _, rfl, rfl, ⟨_, _, rfl, rfl, rfl⟩⟩⟩⟩ := h
  exact rfl
theorem k90_mk (w : World) (x : Pa) : k90.K w x x.cells := ⟨[.int .i64 x.seq], [.string (strOfNums x.body), .bool x.sent, .int .i64 x.age, .bool x.due], rfl, rfl, ⟨[.string (strOfNums x.body)], [.bool x.sent, .int .i64 x.age, .bool x.due], rfl, rfl, ⟨[.bool x.sent], [.int .i64 x.age, .bool x.due], rfl, rfl, ⟨[.int .i64 x.age], [.bool x.due], rfl, rfl, rfl⟩⟩⟩⟩
theorem k90_mkM (w : World) (base : Nat) (ok : Nat → Prop) (x : Pa) : k90.M w base ok x x.cells := ⟨[.int .i64 x.seq], [.string (strOfNums x.body), .bool x.sent, .int .i64 x.age, .bool x.due], rfl, rfl, ⟨[.string (strOfNums x.body)], [.bool x.sent, .int .i64 x.age, .bool x.due], rfl, rfl, ⟨[.bool x.sent], [.int .i64 x.age, .bool x.due], rfl, rfl, ⟨[.int .i64 x.age], [.bool x.due], rfl, rfl, rfl⟩⟩⟩⟩
/-- the reference's row in memory, from a place on -/
def RB (W : World) (A : Option Addr) (off : Nat) (q : List Pa) : Prop := q ≠ [] → ∃ (g : Nat) (cs : Array Value), A = some ⟨g, off, none⟩ ∧ W.heap[g]? = some (.cells cs 90 (0, 0)) ∧ ∀ (k j : Nat) (p : Pa), q[k]? = some p → j < 5 → cs[off + (k * 5 + j)]? = p.cells[j]?
theorem RB.keep {W W' : World} {A : Option Addr} {off : Nat} {q : List Pa} (h : RB W A off q) (hk : Kept 90 W W') : RB W' A off q := fun hne => by
  obtain ⟨g, cs, h1, h2, h3⟩ := h hne
  exact ⟨g, cs, h1, hk g cs h2, h3⟩
theorem RB.nil (W : World) (A : Option Addr) (off : Nat) : RB W A off [] := fun h => absurd rfl h
theorem RB.tail {W : World} {g off : Nat} {p : Pa} {r : List Pa} (h : RB W (some ⟨g, off, none⟩) off (p :: r)) : RB W (some ⟨g, off + 5, none⟩) (off + 5) r := fun _ => by
  obtain ⟨g', cs, h1, h2, h3⟩ := h (by simp)
  injection h1 with h1
  injection h1 with h1
  subst h1
  refine ⟨g, cs, rfl, h2, fun k j p' hp hj => ?_⟩
  have := h3 (k + 1) j p' (by simpa using hp) hj
  rw [show off + ((k + 1) * 5 + j) = off + 5 + (k * 5 + j) by omega] at this
  exact this
theorem addr_add (g off i : Nat) : (⟨g, off, none⟩ : Addr).add i = ⟨g, off + i, none⟩ := by
  unfold Addr.add
  split
  · next h0 =>
      subst h0
      rfl
  · rfl
theorem RB.reads {W : World} {A : Option Addr} {off : Nat} {q : List Pa} (h : RB W A off q) (hn : q.length ≤ 1000) : Kd.C k90 W A q.length q := by
  refine ⟨rfl, by omega, fun hne => ?_⟩
  obtain ⟨g, cs, rfl, h2, h3⟩ := h (by rintro rfl; exact absurd hne (Nat.lt_irrefl 0))
  refine ⟨_, rfl, fun j p hp => ⟨p.cells, rfl, k90_mk _ _, fun i u hu => ?_⟩⟩
  have hi : i < 5 := (List.getElem?_eq_some_iff.1 hu).1
  have e : (⟨g, off, none⟩ : Addr).add (j * k90.sz + i) = ⟨g, off + (j * 5 + i), none⟩ := addr_add _ _ _
  rw [e, cell_blk h2, h3 j i p hp hi]
  exact hu
/-- the cells of one place -/
theorem RB.at {W : World} {g : Nat} {cs : Array Value} {off k : Nat} {q : List Pa} {p : Pa} (h2 : W.heap[g]? = some (.cells cs 90 (0, 0))) (h3 : ∀ (k j : Nat) (p : Pa), q[k]? = some p → j < 5 → cs[off + (k * 5 + j)]? = p.cells[j]?) (hp : q[k]? = some p) :
    W.cell? ⟨g, off + k * 5, none⟩ = some (.int .i64 p.seq) ∧ W.cell? ⟨g, off + k * 5 + 1, none⟩ = some (.string (strOfNums p.body)) ∧ W.cell? ⟨g, off + k * 5 + 2, none⟩ = some (.bool p.sent) ∧ W.cell? ⟨g, off + k * 5 + 3, none⟩ = some (.int .i64 p.age) ∧ W.cell? ⟨g, off + k * 5 + 4, none⟩ = some (.bool p.due) := by
  have e : ∀ j, j < 5 → W.cell? ⟨g, off + k * 5 + j, none⟩ = p.cells[j]? := fun j hj => by
    rw [cell_blk h2, Nat.add_assoc]
    exact h3 k j p hp hj
  exact ⟨by simpa [Pa.cells] using e 0 (by omega), by simpa [Pa.cells] using e 1 (by omega), by simpa [Pa.cells] using e 2 (by omega), by simpa [Pa.cells] using e 3 (by omega), by simpa [Pa.cells] using e 4 (by omega)⟩
/-- a row of one's own -/
theorem RB_of {W : World} {base : Nat} {v : Value} {q : List Pa} (h : Kd.R k90 90 W base (fun _ => True) v q) : ∃ A c, v = .slice A q.length c ∧ q.length ≤ c ∧ RB W A 0 q ∧ (q ≠ [] → ∃ g, A = some ⟨g, 0, none⟩ ∧ base ≤ g) := by
  obtain ⟨A, c, e, hl, hC⟩ := Kd.R_reads h
  refine ⟨A, c, e, hl, ?_, ?_⟩ <;> intro hne
  all_goals
    have hpos : q.length ≠ 0 := fun e => hne (List.eq_nil_of_length_eq_zero e)
    obtain ⟨_, inner, ⟨hl2, h2⟩, hr⟩ := h
    rcases h2 with ⟨e2, _⟩ | ⟨g, cap, cur, e1, e2, e3, e4, e5, e6, e7⟩
    · rw [e] at e2
      injection e2 with _ e2
      exact absurd e2 hpos
    rw [e] at e1
    injection e1 with e1 _ _
    subst e1
  · refine ⟨g, cur, rfl, e3, fun k j p hp hj => ?_⟩
    obtain ⟨ad, ea, hh⟩ := hC.2.2 (Nat.pos_of_ne_zero hpos)
    injection ea with ea
    subst ea
    obtain ⟨cs', hl5, hK, hcell⟩ := hh k p hp
    have hcs := k90_open hK
    subst hcs
    have h5 : p.cells[j]? = some (p.cells[j]'hj) := List.getElem?_eq_getElem hj
    have := hcell j _ h5
    have ee : (⟨g, 0, none⟩ : Addr).add (k * k90.sz + j) = ⟨g, 0 + (k * 5 + j), none⟩ := addr_add _ _ _
    rw [ee, cell_blk e3] at this
    rw [this, h5]
  · exact ⟨g, rfl, e2⟩
def elP (el : El) : List Pa := el.map fun x => ⟨x.1, x.2, false, 0, false⟩
theorem elP_len (el : El) : (elP el).length = el.length := by simp [elP]
/-- the reference's end in memory -/
structure EndAt (n0 : Nat) (W : World) (rb : Nat) (c : Ch) : Prop where
  d : ∃ A cap A' cap' off, W.heap[rb]? = some (.cells #[.int .i64 c.conn, .int .i64 c.next, .slice A c.q.length cap, .int .i64 c.want, .slice A' c.el.length cap', .bool c.owes] 57 (0, 0)) ∧ RB W A off c.q ∧ c.q.length ≤ cap ∧ RB W A' 0 (elP c.el) ∧ c.el.length ≤ cap'
  hb : n0 ≤ rb
def one (b : Nat) : Nat → Prop := fun k => k = b
theorem EndAt.keep {n0 : Nat} {W W' : World} {rb : Nat} {c : Ch} (h : EndAt n0 W rb c) (hb : W'.heap[rb]? = W.heap[rb]?) (hk : Kept 90 W W') : EndAt n0 W' rb c := by
  obtain ⟨⟨A, cap, A', cap', off, h1, h2, h3, h4, h5⟩, h6⟩ := h
  exact ⟨⟨A, cap, A', cap', off, hb.trans h1, h2.keep hk, h3, h4.keep hk, h5⟩, h6⟩
theorem EndAt.lt {n0 : Nat} {W : World} {rb : Nat} {c : Ch} (h : EndAt n0 W rb c) : rb < W.heap.size := by
  obtain ⟨⟨A, cap, A', cap', off, h1, _⟩, _⟩ := h
  exact lt_blk h1
theorem EndAt.below {n0 : Nat} {W W' : World} {rb : Nat} {c : Ch} (h : EndAt n0 W rb c) (hb : Below W.heap.size W W') : EndAt n0 W' rb c := h.keep (hb.block _ h.lt) (Kept.of hb)
set_option maxHeartbeats 4000000 in
theorem rnew_c (W : World) (conn : Int) (h1 : 1 ≤ conn) (h2 : conn ≤ 1099511627776) : Calls Try.prog 20 #[.int .i64 conn] W fun e w' => ∃ rb, e = .returned (.tuple #[.pointer (some ⟨rb, 0, none⟩), .int .i64 0]) ∧ EndAt W.heap.size w' rb (ch0 conn) ∧ Below W.heap.size W w' := by
  go_enter Try.func20, Try.ntmps20
  go_wp2
  go_ret2
  exact ⟨W.heap.size, rfl, ⟨⟨none, 0, none, 0, 0, new_blk _ _, RB.nil _ _ _, Nat.le_refl _, RB.nil _ _ _, Nat.le_refl _⟩, Nat.le_refl _⟩, below_alloc (Below.refl _ _) _⟩
set_option maxHeartbeats 4000000 in
theorem rnew_no (W : World) (conn : Int) (h : conn < 1 ∨ 1099511627776 < conn) : Calls Try.prog 20 #[.int .i64 conn] W fun e w' => e = .returned (.tuple #[.pointer none, .int .i64 1]) ∧ Below W.heap.size W w' := by
  by_cases h1 : conn < 1
  · clear h
    go_enter Try.func20, Try.ntmps20
    go_wp2
    go_ret2
    exact ⟨rfl, Below.refl _ _⟩
  · have h2 : 1099511627776 < conn := by omega
    clear h
    go_enter Try.func20, Try.ntmps20
    go_wp2
    go_ret2
    exact ⟨rfl, Below.refl _ _⟩
/-- where a body stands that came early -/
def earlyF (el : El) (z : Int) : Int := match el.findIdx? (fun p => p.1 == z) with
  | some k => k
  | none => -1
theorem earlyF_at {el : El} {z : Int} {k : Nat} {p : Int × List Int} (hp : el[k]? = some p) (he : p.1 = z) (hn : ∀ j, j < k → ∀ p, el[j]? = some p → p.1 ≠ z) : earlyF el z = k := by
  unfold earlyF
  have hk := (List.getElem?_eq_some_iff.1 hp).1
  have : el.findIdx? (fun p => p.1 == z) = some k := by
    rw [List.findIdx?_eq_some_iff_getElem]
    refine ⟨hk, ?_, fun j hj => ?_⟩
    · have := (List.getElem?_eq_some_iff.1 hp).2
      rw [this]
      simpa using he
    · have := hn j hj _ (List.getElem?_eq_getElem (by omega))
      simpa using this
  rw [this]
theorem earlyF_none {el : El} {z : Int} (hn : ∀ j, j < el.length → ∀ p, el[j]? = some p → p.1 ≠ z) : earlyF el z = -1 := by
  unfold earlyF
  have : el.findIdx? (fun p => p.1 == z) = none := by
    rw [List.findIdx?_eq_none_iff]
    intro x hx
    obtain ⟨j, hj, e⟩ := List.getElem_of_mem hx
    have := hn j hj x (by rw [List.getElem?_eq_getElem hj, e])
    simpa using this
  rw [this]
theorem elP_get {el : El} {k : Nat} {p : Pa} (h : (elP el)[k]? = some p) : ∃ x, el[k]? = some x ∧ p = ⟨x.1, x.2, false, 0, false⟩ := by
  unfold elP at h
  rw [List.getElem?_map] at h
  cases e : el[k]? with
  | none => rw [e] at h; cases h
  | some x =>
    rw [e] at h
    simp only [Option.map_some, Option.some.injEq] at h
    exact ⟨x, rfl, h.symm⟩
set_option maxHeartbeats 8000000 in
theorem early_c {n0 : Nat} {W : World} {rb : Nat} {c : Ch} (h : EndAt n0 W rb c) (hl : c.el.length ≤ 1000) (z : Int) : Calls Try.prog 40 #[.pointer (some ⟨rb, 0, none⟩), .int .i64 z] W fun e w' => e = .returned (.int .i64 (earlyF c.el z)) ∧ Below W.heap.size W w' := by
  obtain ⟨cn, nx, q, wt, el, ow⟩ := c
  obtain ⟨⟨A, cap, A', cap', off, hd, hq, hcap, he, hcap'⟩, hb⟩ := h
  dsimp only at hd hq hcap he hcap' hl ⊢
  cases hel : el with
  | nil =>
    subst hel
    obtain ⟨x0, x1, x2, x3, x4, x5⟩ := boxed6 hd
    have HQ := Lib.hid hq
    have HE := Lib.hid he
    clear hq he
    go_enter Try.func40, Try.ntmps40
    go_wp2
    go_loopw [12] (fun i wr => i = .int .i64 0 ∧ Hid (Below W.heap.size W wr)) (fun _ _ => 1)
    case atStart => exact ⟨rfl, Lib.hid (Below.refl _ _)⟩
    case round =>
      obtain ⟨rfl, HB⟩ := hrel
      go_wp2
      go_ret
      exact ⟨rfl, HB.out⟩
  | cons e0 er =>
    have hne : elP el ≠ [] := by rw [hel]; simp [elP]
    rw [← hel]
    clear hel
    obtain ⟨g, cs, rfl, hg, hcs⟩ := he hne
    obtain ⟨n, hn⟩ : ∃ n, el.length = n := ⟨_, rfl⟩
    rw [hn] at hd hcap' hl
    obtain ⟨x0, x1, x2, x3, x4, x5⟩ := boxed6 hd
    have HQ := Lib.hid hq
    have HG := Lib.hid hg
    have HCS := Lib.hid hcs
    have HN := Lib.hid hn
    clear hq hcs hne hn
    go_enter Try.func40, Try.ntmps40
    go_wp2
    go_loopg [5, 6, 12] n (fun gk v5 v6 i wr => ∃ k : Nat, gk = n - k ∧ i = .int .i64 k ∧ k ≤ n ∧ Hid (∀ j, j < k → ∀ p, el[j]? = some p → p.1 ≠ z) ∧ Hid (Below W.heap.size W wr))
    case atStart => exact ⟨0, rfl, rfl, Nat.zero_le _, Lib.hid (fun j hj => absurd hj (Nat.not_lt_zero _)), Lib.hid (Below.refl _ _)⟩
    case round =>
      obtain ⟨k, hgk, rfl, hk, HK, HB⟩ := hrel
      subst hgk
      by_cases hkn : k < n
      · have hgr := keep_blk HB.out HG.out
        obtain ⟨p, hp⟩ : ∃ p, (elP el)[k]? = some p := ⟨_, List.getElem?_eq_getElem (by rw [elP_len, HN.out]; exact hkn)⟩
        obtain ⟨y0, y1, y2, y3, y4⟩ := RB.at hgr HCS.out hp
        obtain ⟨x, hx, rfl⟩ := elP_get hp
        have HX := Lib.hid hx
        rw [Nat.zero_add] at y0 y1 y2 y3 y4
        have zg := lt_blk hgr
        clear hp hx
        by_cases hz : x.1 = z
        · have hz2 : (x.1 == z) = true := by simpa using hz
          have HZ := Lib.hid hz
          clear hz
          go_wp2
          go_ret
          refine ⟨?_, below_alloc HB.out _⟩
          rw [earlyF_at HX.out HZ.out HK.out]
          rfl
        · have hz2 : (x.1 == z) = false := by simpa using hz
          have HZ := Lib.hid hz
          clear hz
          have HK1 := Lib.hid (show k + 1 ≤ n by omega)
          go_wp2
          go_roundg (n - (k + 1))
          case measure => have := HK1.out; omega
          case rel =>
            refine ⟨k + 1, rfl, by simp, HK1.out, Lib.hid (fun j hj p hp => ?_), Lib.hid (below_alloc HB.out _)⟩
            by_cases hjk : j = k
            · subst hjk
              rw [HX.out] at hp
              injection hp with hp
              subst hp
              exact HZ.out
            · exact HK.out j (by omega) p hp
      · have : k = n := by omega
        subst this
        have HE := Lib.hid (earlyF_none (el := el) (z := z) (by rw [HN.out]; exact HK.out))
        go_wp2
        go_ret
        exact ⟨by rw [HE.out]; rfl, HB.out⟩
end Go.Proofs.Ytommobflhnphnaa.C
