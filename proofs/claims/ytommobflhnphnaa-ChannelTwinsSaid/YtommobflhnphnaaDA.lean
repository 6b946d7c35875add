/- Clone of an end. Conditions: the end is one that New made. -/
import Derived.Test.YtommobflhnphnaaCY
import Derived.Maps.Ext
namespace Go.Proofs.Ytommobflhnphnaa.C
open Go.RowKit Go.Proofs.Ytommobflhnphnaa.P Go.Proofs.YtommobflhnphnaaBase Go.Proofs.YtommobflhnphnaaW.PrintWords Go.Proofs.YtommobflhnphnaaW.PrintLast Go.Proofs.YtommobflhnphnaaW.PrintMore Go.Maps Go.Lib
set_option linter.unusedVariables false
set_option linter.unusedSimpArgs false

theorem grown_kept_it {W w1 : World} {r : Nat} (hg : W.grownBy w1 (some r)) {x : Option Nat} {a c : Nat} {s : Array Nat} (hr : W.heap[r]? = some (.mapIter x a s c)) (t : TypeId) : Kept t W w1 := fun g cs hc => blk_grown hc hg (by
  rintro e
  injection e with e
  subst e
  rw [hr] at hc
  cases hc)
theorem ranges_it {W : World} {m r n cnt : Nat} {D : DataW Value} {left : Lit → Bool} (h : W.ranges Try.prog 3 hv m r n D left cnt) : ∃ x a s c, W.heap[r]? = some (.mapIter x a s c) := by
  obtain ⟨es, clock, since, seen, c0, _, _, _, _, hr, _⟩ := h
  exact ⟨_, _, _, _, hr⟩
/-- the loop over the map: what stands -/
structure CL (W wr : World) (m r s n : Nat) (A3 : Option Addr) (c3 : Nat) (c : Ch) (D : DataW Value) (left : Lit → Bool) (cnt : Nat) (Do : DataW Value) : Prop where
  rg : wr.ranges Try.prog 3 hv m r c.el.length D left cnt
  le : cnt ≤ c.el.length
  ow : wr.ownsMap Try.prog 3 hv s (c.el.length - cnt) Do
  ag : Agree Do D left
  d : wr.heap[W.heap.size]? = some (.cells #[.int .i64 c.next, .slice A3 n c3, .int .i64 c.want, .map (some s), .bool c.owes, .int .i64 c.conn] 68 (0, 0))
  q : QAt wr A3 c.q
  B : Below W.heap.size W wr
def CloneOut (W : World) (c : Ch) (e : Ending) (w' : World) : Prop := ∃ b m, e = .returned (.pointer (some ⟨b, 0, none⟩)) ∧ ChanAt W.heap.size w' b m c ∧ Below W.heap.size W w' ∧ b ≠ m
set_option maxHeartbeats 16000000 in
set_option maxRecDepth 100000 in
theorem clone_c {n0 : Nat} {W : World} {b m n : Nat} {c : Ch} (h : ChanAt n0 W b m c) (hc : c.conn ≠ 0) (hn : c.q.length = n) (hl : n ≤ 32) (hel : c.el.length ≤ 1000) : Calls Try.prog 32 #[.pointer (some ⟨b, 0, none⟩)] W (CloneOut W c) := by
  have hmm := @run_makeMap Try.prog
  obtain ⟨D, hown, hsz, hlook⟩ := h.e.own
  have HO := Lib.hid hown
  have HSZ := Lib.hid hsz
  have HLK := Lib.hid hlook
  have H := Lib.hid h
  have HC := Lib.hid hc
  have HN := Lib.hid hn
  have HEL := Lib.hid hel
  clear h hc hn hown hsz hlook hel
  obtain ⟨A1, cap1, hd1, hq1, hcap1⟩ := H.out.d
  rw [HN.out] at hd1 hcap1
  obtain ⟨x0, x1, x2, x3, x4, x5⟩ := boxed6 hd1
  have HQ1 := Lib.hid hq1
  have HD1 := Lib.hid hd1
  clear hq1 hd1
  go_enter Try.func32, Try.ntmps32
  have hb0 := lt_blk HD1.out
  have hm0 := HO.out.lt
  go_upto_region 5 with (first
    | (go_at_call 39; (with_reducible refine (clone84_n HN.out (HQ1.out.keep (Kept.of (below_alloc (Below.refl _ _) (.cells #[.int .i64 c.next, .slice A1 n cap1, .int .i64 c.want, .map (some m), .bool c.owes, .int .i64 c.conn] 68))) (Kept.of (below_alloc (Below.refl _ _) (.cells #[.int .i64 c.next, .slice A1 n cap1, .int .i64 c.want, .map (some m), .bool c.owes, .int .i64 c.conn] 68)))) hcap1 (by omega)).mono ?_); rintro e w3 ⟨A3, c3, rfl, hq3, hc3, _, hb3⟩; have HQ3 := Lib.hid hq3; have HB3 := Lib.hid (below_step (below_alloc (Below.refl _ _) (.cells #[.int .i64 c.next, .slice A1 n cap1, .int .i64 c.want, .map (some m), .bool c.owes, .int .i64 c.conn] 68)) hb3); have hd3 := keep_blk hb3 (new_blk W (.cells #[.int .i64 c.next, .slice A1 n cap1, .int .i64 c.want, .map (some m), .bool c.owes, .int .i64 c.conn] 68)); have HD3 := Lib.hid hd3; have z1 := free_blk hd3 1; have z3 := free_blk hd3 3; have zb := lt_blk hd3; obtain ⟨u0, u1, u2, u3, u4, u5⟩ := boxed6 hd3; clear hq3 hb3 hd3)
    | (go_at_call 37; (with_reducible refine (dead_q H.out HC.out).mono ?_); rintro e w2 ⟨rfl, rfl⟩))
  have hs3 : W.heap.size < w3.heap.size := zb
  obtain ⟨w4, HW4⟩ : ∃ w4, Hid (w3.setCell ⟨W.heap.size, 1, none⟩ (.slice A3 n c3) = w4) := ⟨_, Lib.hid rfl⟩
  have e4 := HW4.out
  have hz4 : w4.heap.size = w3.heap.size := by rw [← e4]; simp
  rw [e4]
  have hd4 : w4.heap[W.heap.size]? = some (.cells #[.int .i64 c.next, .slice A3 n c3, .int .i64 c.want, .map (some m), .bool c.owes, .int .i64 c.conn] 68 (0, 0)) := by
    rw [← e4]
    exact set_blk (k := 1) HD3.out _
  have HB4 : Hid (Below W.heap.size W w4) := Lib.hid (by rw [← e4]; exact HB3.out.setCell (Nat.le_refl _) _)
  have HQ4 : Hid (QAt w4 A3 c.q) := Lib.hid (by rw [← e4]; exact HQ3.out.keep (kept_put HD3.out (by decide)) (kept_put HD3.out (by decide)))
  have hd5 := old_blk hd4 (.map #[] 0)
  have HS4 := Lib.hid hz4
  have z5 := free_blk hd5 3
  have zb5 := lt_blk hd5
  have HD5 := Lib.hid hd5
  obtain ⟨v0, v1, v2, v3, v4, v5⟩ := boxed6 hd5
  have hx3 : W.heap.size < w4.heap.size := by rw [hz4]; exact zb
  clear e4 hd4 HW4 hd5 hz4 u0 u1 u2 u3 u4 u5 z1 z3 zb
  have hz := HS4.out
  go_upto_region 6 with fail
  obtain ⟨w5, HW5⟩ : ∃ w5, Hid ((w4.setCell ⟨W.heap.size, 3, none⟩ (.map (some w3.heap.size))).alloc (.map #[] 0) = w5) := ⟨_, Lib.hid rfl⟩
  have e5 := HW5.out
  rw [e5]
  obtain ⟨s, HS⟩ : ∃ s, Hid (w3.heap.size = s) := ⟨_, Lib.hid rfl⟩
  have es := HS.out
  have es4 : w4.heap.size = s := HS4.out.trans es
  have hd4 : w4.heap[W.heap.size]? = some (.cells #[.int .i64 c.next, .slice A3 n c3, .int .i64 c.want, .map (some m), .bool c.owes, .int .i64 c.conn] 68 (0, 0)) := by
    have h1 := HD5.out
    rw [(Below.block (below_alloc (Below.refl w4.heap.size w4) (.map #[] 0)) W.heap.size hx3)] at h1
    exact h1
  have D6 : Hid (w5.heap[W.heap.size]? = some (.cells #[.int .i64 c.next, .slice A3 n c3, .int .i64 c.want, .map (some s), .bool c.owes, .int .i64 c.conn] 68 (0, 0))) := Lib.hid (by
    rw [← e5, ← es]
    have := old_blk (set_blk (k := 3) hd4 (.map (some w3.heap.size))) (.map #[] 0); simpa using this)
  have B6 : Hid (Below W.heap.size W w5) := Lib.hid (by
    rw [← e5]
    exact below_alloc (HB4.out.setCell (Nat.le_refl _) _) _)
  have Q6 : Hid (QAt w5 A3 c.q) := Lib.hid (by
    rw [← e5]
    exact (HQ4.out.keep (kept_put hd4 (by decide)) (kept_put hd4 (by decide))).keep (Kept.of (below_alloc (Below.refl _ _) _)) (Kept.of (below_alloc (Below.refl _ _) _)))
  have M6 : Hid (w5.ownsMap Try.prog 3 hv s 0 (.map [])) := Lib.hid (by
    have := World.ownsMap_made (w4.setCell ⟨W.heap.size, 3, none⟩ (.map (some w3.heap.size))) Try.prog 3 hv
    rw [show (w4.setCell ⟨W.heap.size, 3, none⟩ (.map (some w3.heap.size))).heap.size = s by simp [es4], e5] at this
    exact this)
  have O6 : Hid (w5.ownsMap Try.prog 3 hv m c.el.length D) := Lib.hid (ownsMap_blk HO.out (B6.out.block m hm0))
  have hsz6 : Hid (w5.heap.size = s + 1) := Lib.hid (by rw [← e5]; simp [es4])
  have hsW : Hid (W.heap.size < s) := Lib.hid (by rw [← es4]; exact hx3)
  rw [es]
  have c3b : w5.cell? ⟨b, 3, none⟩ = some (.map (some m)) := cell_blk (keep_blk B6.out HD1.out) 3
  clear e5 HW5 es es4 HS HS4 hd4 HD5 v0 v1 v2 v3 v4 v5 z5 zb5 hx3 hz
  go_upto_region 7 with (first
    | (at_range; refine wpList_range_own _ rfl _ 64 rfl 3 23 law3 Try.underlying64 _ m c.el.length _ rfl O6.out ?_; intro w0 hrg0 hg0 hs0))
  go_frame
  rw [hsz6.out] at hrg0 hs0 ⊢
  have it0 := ranges_it hrg0
  have hsm : s ≠ s + 1 := by omega
  have K0 : ∀ t, Kept t w5 w0 := fun t g cs hc => blk_grown hc hg0 (by simp)
  have L0 : Hid (CL W w0 m (s + 1) s n A3 c3 c D (Maps.has D) (Maps.size D) (.map [])) := Lib.hid ⟨hrg0, by rw [HSZ.out]; exact Nat.le_refl _, (M6.out.kept hg0 (by simp)).mono (Nat.zero_le _), agree_start D, K0 68 _ _ D6.out, Q6.out.keep (K0 5) (K0 84), B6.out.grown hg0 B6.out.size (fun j hj => by cases hj)⟩
  clear hrg0 hg0 hs0 it0 K0 c3b
  go_loopw [4] (fun _ wr => ∃ (left : Lit → Bool) (cnt : Nat) (Do : DataW Value), Hid (CL W wr m (s + 1) s n A3 c3 c D left cnt Do)) (fun _ wr => wr.rangeLeft m (s + 1))
  case atStart => exact ⟨_, _, _, L0⟩
  case round =>
    obtain ⟨left, cnt, Do, L⟩ := hrel
    have hrg := L.out.rg
    go_wp2_with (first
      | (at_next; refine wpList_next_ranges _ rfl _ rfl 3 law3 hv (Value.int .i64) (fun v => v) (fun key kl hk => by obtain ⟨x, e, _⟩ := Maps.keyOf_int_inv Try.underlying3 hk; exact ⟨x, e⟩) (fun v y _ => ⟨v, rfl⟩) m (s + 1) c.el.length _ _ _ rfl hrg ?_ ?_)
      | go_in)
    · intro hc0 hl0
      go_wp2
      go_ret
      have e := agree_end L.out.ag hl0 (L.out.ow.canon law3) (HO.out.canon law3)
      have hL := L.out
      subst hc0
      subst e
      refine ⟨W.heap.size, s, rfl, ⟨⟨A3, c3, ?_, hL.q, by rw [HN.out]; exact hc3⟩, ⟨H.out.e.nd, Do, by simpa using hL.ow, HSZ.out, fun z hz => ?_⟩, Nat.le_refl _, Nat.le_of_lt hsW.out⟩, hL.B, by have := hsW.out; omega⟩
      · rw [HN.out]
        exact hL.d
      · rcases HLK.out z hz with h4 | ⟨bs, v, h4, h5, h6, h7⟩
        · exact .inl h4
        · exact .inr ⟨bs, v, h4, h5, h6, h7.keep (Kept.of hL.B)⟩
    · intro x v kl y1 y2 w1 cnt1 hkey hlx hy hat hrg1 hlt hg1 hs1 hen
      have it := ranges_it hrg
      have K1 : ∀ t, Kept t wr w1 := fun t => by
        obtain ⟨a1, a2, a3, a4, a5⟩ := it
        exact grown_kept_it hg1 a5 t
      have D1 := K1 68 _ _ L.out.d
      obtain ⟨v0, v1, v2, v3, v4, v5⟩ := boxed6 D1
      have hrt := hrg.lt
      have hrs : s ≠ s + 1 := by omega
      have hms : m ≠ s := by have := hsW.out; omega
      have O1 := L.out.ow.kept hg1 (by simp)
      obtain ⟨x', ex, ekl, hwx⟩ := Maps.keyOf_int_inv Try.underlying3 hkey
      injection ex with _ ex
      subst ex
      subst ekl
      have hy' : y1 = .held v := by
        have : some (DataW.held v, ([] : List MemPlace)) = some (y1, y2) := hy
        injection this with this
        injection this with this _
        exact this.symm
      subst hy'
      have hlim : c.el.length - cnt < maxLen := by have := HEL.out; unfold maxLen; omega
      have HK0 := Lib.hid hkey
      clear hkey hy it K1
      go_wp2_with (first
        | (at_mapUpdate; refine wpList_mapUpdate_own _ rfl _ _ _ 64 rfl 3 23 law3 Try.underlying64 _ s _ _ rfl O1 hlim _ _ _ rfl rfl (keyOf_int_mk Try.underlying3 hwx) (.held v) [] rfl ?_; intro w2 hout2 hg2; go_frame)
        | go_in)
      have hrg2 := hrg1.kept hg2 (fun e => hms (Option.some.inj e)) (fun e => hrs (Option.some.inj e).symm)
      have K2 : ∀ t, Kept t w1 w2 := fun t g cs hc => blk_grown hc hg2 (by
        rintro e
        injection e with e
        subst e
        obtain ⟨es, clock, h1, _⟩ := O1
        rw [hc] at h1
        cases h1)
      have K1 : ∀ t, Kept t wr w1 := fun t => by
        obtain ⟨a1, a2, a3, a4, a5⟩ := ranges_it hrg
        exact grown_kept_it hg1 a5 t
      have hle := L.out.le
      go_roundw
      case rel =>
        have hL := L.out
        exact ⟨_, cnt1, _, Lib.hid ⟨hrg2, by omega, hout2.mono (by omega), agree_step hL.ag hL.ow.isMap trivial hat, K2 68 _ _ D1, (hL.q.keep (K1 5) (K1 84)).keep (K2 5) (K2 84), (hL.B.grown hg1 hL.B.size (fun j hj => by cases hj; have := hsW.out; omega)).grown hg2 (by have := hL.B.size; omega) (fun j hj => by cases hj; exact Nat.le_of_lt hsW.out)⟩⟩
      case measure => rw [hrg2.left_eq, hrg.left_eq]; exact hlt
end Go.Proofs.Ytommobflhnphnaa.C
