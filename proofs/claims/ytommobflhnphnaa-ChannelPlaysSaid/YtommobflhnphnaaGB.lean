/- The end's Take, all ways. Conditions: the end is one that New made. The dead ends. Conditions: none. Two ends beside each other; frames that are read. Conditions: none. A fresh end. Conditions: none. The example's text: []byte("x") as the program makes it. Conditions: none. The example (awake). Conditions: none. The law ChannelNobody walked: its call answers true. Conditions: none. What an end does, in plain lists: what always holds of it. Conditions: none. The short scripts; rows that are read as they were; the law ChannelAgain walked. Conditions: none. -/
import Derived.Test.YtommobflhnphnaaCO
namespace Go.Proofs.Ytommobflhnphnaa.C
open Go.RowKit Go.Proofs.Ytommobflhnphnaa.P Go.Proofs.YtommobflhnphnaaBase Go.Proofs.YtommobflhnphnaaW.PrintWords Go.Proofs.YtommobflhnphnaaW.PrintLast Go.Maps Go.Lib
set_option linter.unusedVariables false
set_option linter.unusedSimpArgs false

def BadForm (f : S25) : Prop := f.f1 < 0 ∨ f.f2 < 0 ∨ (f.f1 = 0 ∧ f.f3.length ≠ 0) ∨ (f.f1 ≠ 0 ∧ f.f3.length = 0)
instance (f : S25) : Decidable (BadForm f) := by unfold BadForm; infer_instance
def elF (c : Ch) (f : S25) : El := match find c.el f.f1 with | some _ => c.el | none => c.el ++ [(f.f1, f.f3)]
def takeF (c : Ch) (f : S25) : Ch × List (List Int) × Int :=
  if f.f0 ≠ c.conn then (c, [], 130)
  else if BadForm f then (c, [], 120)
  else if f.f1 = 0 then ({ c with q := ackedF f.f2 c.q }, [], 0)
  else if f.f1 < c.want ∨ c.want + 4 ≤ f.f1 then ({ c with q := ackedF f.f2 c.q, owes := true }, [], 0)
  else ({ c with q := ackedF f.f2 c.q, owes := true, el := (drain (elF c f).length (elF c f) c.want).2.1, want := (drain (elF c f).length (elF c f) c.want).2.2 }, (drain (elF c f).length (elF c f) c.want).1, 0)
def TakeOut [lim : Lim] (n0 b m : Nat) (W : World) (r : Ch × List (List Int) × Int) (e : Ending) (w' : World) : Prop := ∃ v, e = .returned (.tuple #[v, .int .i64 r.2.2]) ∧ OutAt w' W.heap.size v r.2.1 ∧ ChanAt n0 w' b m r.1 ∧ Ons (two b m) W w'
theorem take_c [lim : Lim] {n0 : Nat} {W : World} {b m cf : Nat} {c : Ch} {f : S25} {Af : Option Addr} (h : ChanAt n0 W b m c) (hc : c.conn ≠ 0) (hq : c.q.length ≤ 32) (hf1 : f.f1 ≤ 9223372036854775807) (h5 : 1 ≤ c.want ∧ c.want ≤ 1099511627777) (hB : ∀ W', Ons (two b m) W W' → Kd.C (Kd.int .u8) W' Af f.f3.length f.f3) (hcf : f.f3.length ≤ cf) (hlm : f.f3.length ≤ 1000000) (hel : c.el.length ≤ 1000) (hlim : ∀ k, W.heap.size ≤ k → Lim.ok k) :
    Calls Try.prog 14 #[.pointer (some ⟨b, 0, none⟩), .agg #[.int .i64 f.f0, .int .i64 f.f1, .int .i64 f.f2, .slice Af f.f3.length cf]] W (TakeOut n0 b m W (takeF c f)) := by
  unfold takeF
  by_cases h1 : f.f0 = c.conn
  · rw [if_neg (by simpa using h1)]
    by_cases h2 : BadForm f
    · rw [if_pos h2]
      refine (take_form (l := f.f3.length) h hc h1 ?_).mono fun e w' ⟨e1, e2⟩ => ⟨_, e1, OutAt.nil _ _, h.below e2, Ons.of e2⟩
      unfold BadForm at h2
      by_cases a : f.f1 < 0
      · exact .inl a
      · by_cases a2 : f.f2 < 0
        · exact .inr (.inl ⟨by omega, a2⟩)
        · rcases h2 with h2 | h2 | ⟨h2, h3⟩ | ⟨h2, h3⟩
          · exact absurd h2 a
          · exact absurd h2 a2
          · exact .inr (.inr (.inl ⟨by omega, by omega, h2, h3⟩))
          · exact .inr (.inr (.inr ⟨by omega, by omega, h2, h3⟩))
    · rw [if_neg h2]
      unfold BadForm at h2
      have h20 : ¬ f.f1 < 0 := fun e => h2 (.inl e)
      have h21 : ¬ f.f2 < 0 := fun e => h2 (.inr (.inl e))
      have h22 : f.f1 = 0 → f.f3.length = 0 := fun e => Classical.byContradiction fun k => h2 (.inr (.inr (.inl ⟨e, k⟩)))
      have h23 : f.f1 ≠ 0 → f.f3.length ≠ 0 := fun e k => h2 (.inr (.inr (.inr ⟨e, k⟩)))
      by_cases h3 : f.f1 = 0
      · rw [if_pos h3]
        exact (take_zero h hc hq h1 h3 (by omega) (h22 h3)).mono fun e w' ⟨e1, e2, e3⟩ => ⟨_, e1, OutAt.nil _ _, e2, e3⟩
      · rw [if_neg h3]
        have hpos : 0 < f.f3.length := Nat.pos_of_ne_zero (h23 h3)
        by_cases h4 : f.f1 < c.want ∨ c.want + 4 ≤ f.f1
        · rw [if_pos h4]
          rcases h4 with h4 | h4
          · exact (take_out1 h hc hq h1 ⟨by omega, hf1⟩ (by omega) hpos h5 h4).mono fun e w' ⟨e1, e2, e3⟩ => ⟨_, e1, OutAt.nil _ _, e2, e3⟩
          · exact (take_out2 h hc hq h1 ⟨by omega, hf1⟩ (by omega) hpos h5 h4).mono fun e w' ⟨e1, e2, e3⟩ => ⟨_, e1, OutAt.nil _ _, e2, e3⟩
        · rw [if_neg h4]
          cases hf : find c.el f.f1 with
          | none => exact take_in h hc hq h1 ⟨by omega, hf1⟩ (by omega) hpos h5 ⟨by omega, by omega⟩ hB rfl hcf hlm hel (Lib.hid hf) (Lib.hid (by unfold elF; rw [hf])) hlim
          | some bs => exact take_had h hc hq h1 ⟨by omega, hf1⟩ (by omega) hpos h5 ⟨by omega, by omega⟩ hB rfl hcf hlm hel (Lib.hid hf) (Lib.hid (by unfold elF; rw [hf]))
  · rw [if_pos h1]
    exact (take_conn (l := f.f3.length) h hc h1).mono fun e w' ⟨e1, e2⟩ => ⟨_, e1, OutAt.nil _ _, h.below e2, Ons.of e2⟩
end Go.Proofs.Ytommobflhnphnaa.C
namespace Go.Proofs.Ytommobflhnphnaa.C
open Go.RowKit Go.Proofs.Ytommobflhnphnaa.P Go.Proofs.YtommobflhnphnaaBase Go.Proofs.YtommobflhnphnaaW.PrintWords Go.Proofs.YtommobflhnphnaaW.PrintLast Go.Maps Go.Lib
set_option linter.unusedVariables false
set_option linter.unusedSimpArgs false
/-- any block -/
instance topLim : Lim := ⟨fun _ => True⟩

/-- no end: nil, or one that New did not make -/
def NoEnd (W : World) (A : Option Addr) : Prop := A = none ∨ ∃ b, A = some ⟨b, 0, none⟩ ∧ W.heap[b]? = some (.cells #[.int .i64 0, .slice none 0 0, .int .i64 0, .map none, .bool false, .int .i64 0] 68 (0, 0))
theorem NoEnd.below {W W' : World} {A : Option Addr} (h : NoEnd W A) (hb : Below W.heap.size W W') : NoEnd W' A := by
  rcases h with h | ⟨b, h1, h2⟩
  · exact .inl h
  · exact .inr ⟨b, h1, keep_blk hb h2⟩
theorem dead_t {W : World} {A : Option Addr} (h : NoEnd W A) : Calls Try.prog 37 #[.pointer A] W fun e w' => e = .returned (.bool true) ∧ Below W.heap.size W w' := by
  rcases h with rfl | ⟨b, rfl, h⟩
  · go_enter Try.func37, Try.ntmps37
    go_wp2
    go_ret
    exact ⟨rfl, Below.refl _ _⟩
  · obtain ⟨y0, y1, y2, y3, y4, y5⟩ := boxed6 h
    clear h
    go_enter Try.func37, Try.ntmps37
    first
    | (go_wp2; go_ret; exact ⟨rfl, Below.refl _ _⟩)
    | (go_region; go_wp2; go_ret; exact ⟨rfl, by first | exact Below.refl _ _ | exact below_drew1 (Below.refl _ _)⟩)
set_option maxHeartbeats 4000000 in
theorem nosend {W : World} {A : Option Addr} {B : Option Addr} {l cb : Nat} (h : NoEnd W A) : Calls Try.prog 13 #[.pointer A, .slice B l cb] W fun e w' => e = .returned (.int .i64 6) ∧ Below W.heap.size W w' := by
  have H := Lib.hid h
  clear h
  go_enter Try.func13, Try.ntmps13
  go_wp2_with (first
    | (go_at_call 37; (with_reducible refine (dead_t H.out).mono ?_); rintro e w2 ⟨rfl, hbb⟩))
  first
  | go_ret2
  | go_ret
  exact ⟨rfl, hbb⟩
set_option maxHeartbeats 4000000 in
theorem notake {W : World} {A : Option Addr} {x0 x1 x2 : Int} {B : Option Addr} {l cb : Nat} (h : NoEnd W A) : Calls Try.prog 14 #[.pointer A, .agg #[.int .i64 x0, .int .i64 x1, .int .i64 x2, .slice B l cb]] W fun e w' => e = .returned (.tuple #[.slice none 0 0, .int .i64 6]) ∧ Below W.heap.size W w' := by
  have H := Lib.hid h
  clear h
  go_enter Try.func14, Try.ntmps14
  go_wp2_with (first
    | (go_at_call 37; (with_reducible refine (dead_t (H.out.below (below_alloc (Below.refl _ _) _))).mono ?_); rintro e w2 ⟨rfl, hbb⟩))
  first
  | go_ret2
  | go_ret
  exact ⟨rfl, below_step (below_alloc (Below.refl _ _) _) hbb⟩
set_option maxHeartbeats 4000000 in
theorem notick {W : World} {A : Option Addr} (h : NoEnd W A) : Calls Try.prog 15 #[.pointer A] W fun e w' => e = .returned (.int .i64 6) ∧ Below W.heap.size W w' := by
  have H := Lib.hid h
  clear h
  go_enter Try.func15, Try.ntmps15
  go_wp2_with (first
    | (go_at_call 37; (with_reducible refine (dead_t H.out).mono ?_); rintro e w2 ⟨rfl, hbb⟩))
  first
  | go_ret2
  | go_ret
  exact ⟨rfl, hbb⟩
set_option maxHeartbeats 4000000 in
theorem noout {W : World} {A : Option Addr} (h : NoEnd W A) : Calls Try.prog 16 #[.pointer A] W fun e w' => e = .returned (.slice none 0 0) ∧ Below W.heap.size W w' := by
  have H := Lib.hid h
  clear h
  go_enter Try.func16, Try.ntmps16
  go_wp2_with (first
    | (go_at_call 37; (with_reducible refine (dead_t H.out).mono ?_); rintro e w2 ⟨rfl, hbb⟩))
  first
  | go_ret2
  | go_ret
  exact ⟨rfl, hbb⟩
set_option maxHeartbeats 4000000 in
theorem notaken {W : World} {A : Option Addr} (h : NoEnd W A) : Calls Try.prog 17 #[.pointer A] W fun e w' => e = .returned (.int .i64 0) ∧ Below W.heap.size W w' := by
  have H := Lib.hid h
  clear h
  go_enter Try.func17, Try.ntmps17
  go_wp2_with (first
    | (go_at_call 37; (with_reducible refine (dead_t H.out).mono ?_); rintro e w2 ⟨rfl, hbb⟩))
  first
  | go_ret2
  | go_ret
  exact ⟨rfl, hbb⟩
set_option maxHeartbeats 4000000 in
theorem nowait {W : World} {A : Option Addr} (h : NoEnd W A) : Calls Try.prog 18 #[.pointer A] W fun e w' => e = .returned (.int .i64 0) ∧ Below W.heap.size W w' := by
  have H := Lib.hid h
  clear h
  go_enter Try.func18, Try.ntmps18
  go_wp2_with (first
    | (go_at_call 37; (with_reducible refine (dead_t H.out).mono ?_); rintro e w2 ⟨rfl, hbb⟩))
  first
  | go_ret2
  | go_ret
  exact ⟨rfl, hbb⟩
set_option maxHeartbeats 4000000 in
theorem nocalm {W : World} {A : Option Addr} (h : NoEnd W A) : Calls Try.prog 29 #[.pointer A] W fun e w' => e = .returned (.bool true) ∧ Below W.heap.size W w' := by
  have H := Lib.hid h
  clear h
  go_enter Try.func29, Try.ntmps29
  go_wp2_with (first
    | (go_at_call 37; (with_reducible refine (dead_t H.out).mono ?_); rintro e w2 ⟨rfl, hbb⟩))
  first
  | go_ret2
  | go_ret
  exact ⟨rfl, hbb⟩
set_option maxHeartbeats 4000000 in
theorem noconn {W : World} {A : Option Addr} (h : NoEnd W A) : Calls Try.prog 30 #[.pointer A] W fun e w' => e = .returned (.int .i64 0) ∧ Below W.heap.size W w' := by
  rcases h with rfl | ⟨b, rfl, h⟩
  · go_enter Try.func30, Try.ntmps30
    go_wp2
    go_ret
    exact ⟨rfl, Below.refl _ _⟩
  · obtain ⟨y0, y1, y2, y3, y4, y5⟩ := boxed6 h
    clear h
    go_enter Try.func30, Try.ntmps30
    go_wp2
    go_ret
    exact ⟨rfl, Below.refl _ _⟩
set_option maxHeartbeats 4000000 in
theorem noclone {W : World} {A : Option Addr} (h : NoEnd W A) : Calls Try.prog 32 #[.pointer A] W fun e w' => e = .returned (.pointer none) ∧ Below W.heap.size W w' := by
  have H := Lib.hid h
  clear h
  go_enter Try.func32, Try.ntmps32
  go_wp2_with (first
    | (go_at_call 37; (with_reducible refine (dead_t H.out).mono ?_); rintro e w2 ⟨rfl, hbb⟩))
  first
  | go_ret2
  | go_ret
  exact ⟨rfl, hbb⟩
end Go.Proofs.Ytommobflhnphnaa.C
namespace Go.Proofs.Ytommobflhnphnaa.C
open Go.RowKit Go.Proofs.Ytommobflhnphnaa.P Go.Proofs.YtommobflhnphnaaBase Go.Proofs.YtommobflhnphnaaW.PrintWords Go.Proofs.YtommobflhnphnaaW.PrintLast Go.Maps Go.Lib
set_option linter.unusedVariables false
set_option linter.unusedSimpArgs false

theorem ChanAt.other {n0 n1 : Nat} {W W' : World} {b m b2 m2 : Nat} {c c2 : Ch} (h2 : ChanAt n1 W b2 m2 c2) (h1 : ChanAt n0 W b m c) (ho : Ons (two b m) W W') (hne : ¬ two b m b2 ∧ ¬ two b m m2) : ChanAt n1 W' b2 m2 c2 :=
  h2.keep (ho.blk b2 h2.ltb hne.1) (ho.blk m2 h2.e.lt hne.2) (h1.two_kept ho 5 (by decide)) (h1.two_kept ho 84 (by decide))
theorem R25_kept {W W' : World} {base : Nat} {ok : Nat → Prop} {v : Value} {xs : List S25} (h : Kd.R k25 25 W base ok v xs) (h25 : Kept 25 W W') (h5 : Kept 5 W W') : Kd.R k25 25 W' base ok v xs :=
  Kd.R_mono (Kd.R_move (Kd.R_bound h) (fun k hk' => by
    obtain ⟨_, _, _, q, hq, cells, hc⟩ := hk'
    have hq2 : q = 25 ∨ q = 5 := by simpa [k25, Kd.iso, Kd.pair, Kd.int, Kd.scalar, Kd.slice] using hq
    rcases hq2 with rfl | rfl
    · rw [h25 k cells hc, hc]
    · rw [h5 k cells hc, hc])) (fun _ h => h.1)
theorem frame_reads {W : World} {base n c : Nat} {ok : Nat → Prop} {A : Option Addr} {xs : List S25} (hR : Kd.R k25 25 W base ok (.slice A n c) xs) (i : Nat) (hi : i < xs.length) : ∃ ad A3 c3, A = some ad ∧ n = xs.length ∧ W.cell? (ad.add (i * 4)) = some (.int .i64 (rd_T25 xs i).f0) ∧ W.cell? ⟨(ad.add (i * 4)).block, (ad.add (i * 4)).off + 1, none⟩ = some (.int .i64 (rd_T25 xs i).f1) ∧ W.cell? ⟨(ad.add (i * 4)).block, (ad.add (i * 4)).off + 2, none⟩ = some (.int .i64 (rd_T25 xs i).f2) ∧ W.cell? ⟨(ad.add (i * 4)).block, (ad.add (i * 4)).off + 3, none⟩ = some (.slice A3 (rd_T25 xs i).f3.length c3) ∧ (rd_T25 xs i).f3.length ≤ c3 ∧ ∀ W', Kept 25 W W' → Kept 5 W W' → Kd.C (Kd.int .u8) W' A3 (rd_T25 xs i).f3.length (rd_T25 xs i).f3 := by
  obtain ⟨A', c', e, hl, hC⟩ := Kd.R_reads hR
  injection e with e1 e2 e3
  subst e1
  subst e2
  obtain ⟨ad, A3, c3, rfl, h0, h1, h2, h3, h4, h5⟩ := at_T25 hC (i : Int) (by omega) (by omega)
  simp only [Int.toNat_natCast] at h0 h1 h2 h3
  refine ⟨ad, A3, c3, rfl, rfl, h0, h1, h2, h3, h4, fun W' k25' k5 => ?_⟩
  obtain ⟨inner, ho⟩ := Kd.R_own hR
  have hblk : ∃ g, ad = ⟨g, 0, none⟩ := by
    rcases ho.2 with ⟨e, _⟩ | ⟨g, cap, cur, e, _⟩
    · cases e
    · injection e with e _ _
      injection e with e
      exact ⟨g, e⟩
  obtain ⟨g, rfl⟩ := hblk
  obtain ⟨cells, hc⟩ := own_typed ho g rfl
  obtain ⟨A', c', e, hl', hC'⟩ := Kd.R_reads (R25_kept hR k25' k5)
  injection e with e1 e2 e3
  subst e1
  obtain ⟨ad', A3', c3', e', _, _, _, h3', _, h5'⟩ := at_T25 hC' (i : Int) (by omega) (by omega)
  injection e' with e'
  subst e'
  simp only [Int.toNat_natCast] at h3'
  have hs : ((⟨g, 0, none⟩ : Addr).add (i * 4)).block = g := by
    unfold Addr.add
    split <;> rfl
  rw [World.cell?_of_block (w := W) (by simp only [hs]; rw [k25' g cells hc, hc]), h3] at h3'
  injection h3' with h3'
  injection h3' with h6 h7 h8
  rw [h6]
  exact h5'
end Go.Proofs.Ytommobflhnphnaa.C
namespace Go.Proofs.Ytommobflhnphnaa.C
open Go.RowKit Go.Proofs.Ytommobflhnphnaa.P Go.Proofs.YtommobflhnphnaaBase Go.Proofs.YtommobflhnphnaaW.PrintWords Go.Proofs.YtommobflhnphnaaW.PrintLast Go.Maps Go.Lib
set_option linter.unusedVariables false
set_option linter.unusedSimpArgs false

def FreshOut (W : World) (e : Ending) (w' : World) : Prop := ∃ b m, e = .returned (.pointer (some ⟨b, 0, none⟩)) ∧ ChanAt W.heap.size w' b m (ch0 1) ∧ Below W.heap.size W w' ∧ b ≠ m
set_option maxHeartbeats 4000000 in
theorem fresh_c (W : World) : Calls Try.prog 12 #[] W (FreshOut W) := by
  go_enter Try.func12, Try.ntmps12
  go_wp2_with (first
    | (go_at_call 19; (with_reducible refine (new_c W 1 (by decide) (by decide)).mono ?_); rintro e w2 ⟨b, m, rfl, h1, h2, h3⟩; have H1 := Lib.hid h1; have H2 := Lib.hid h2; clear h1 h2))
  go_ret
  exact ⟨b, m, rfl, H1.out, H2.out, h3⟩
/-- the end after one text has been sent, and after its frame went out -/
def chA1 : Ch := { ch0 1 with q := [⟨1, [120], false, 0, false⟩], next := 2 }
theorem sendA : sendF (ch0 1) [120] = (chA1, 0) := by kernel_rfl
theorem outA : outR chA1 = [⟨1, 1, 0, [120]⟩] := by kernel_rfl
theorem takeB : takeF (ch0 1) ⟨1, 1, 0, [120]⟩ = ({ ch0 1 with want := 2, owes := true }, [[120]], 0) := by kernel_rfl
theorem outB : outR { ch0 1 with want := 2, owes := true } = [⟨1, 0, 1, []⟩] := by kernel_rfl
theorem takeA : takeF (outC chA1) ⟨1, 0, 1, []⟩ = ({ ch0 1 with next := 2 }, [], 0) := by kernel_rfl
theorem send_one {n0 : Nat} {W : World} {b m : Nat} {Ab : Option Addr} {cb : Nat} (h : ChanAt n0 W b m (ch0 1)) (hB : Kd.C (Kd.int .u8) W Ab 1 [120]) (hcb : 1 ≤ cb) : Calls Try.prog 13 #[.pointer (some ⟨b, 0, none⟩), .slice Ab 1 cb] W fun e w' => e = .returned (.int .i64 0) ∧ ChanAt n0 w' b m chA1 ∧ Ons (two b m) W w' := by
  have := send_c (bs := [120]) h (by decide) hB hcb (by decide) (fun _ _ => trivial)
  rw [sendA] at this
  exact this
end Go.Proofs.Ytommobflhnphnaa.C
namespace Go.Proofs.Ytommobflhnphnaa.C
open Go.RowKit Go.Proofs.Ytommobflhnphnaa.P Go.Proofs.YtommobflhnphnaaBase Go.Proofs.YtommobflhnphnaaW.PrintWords Go.Proofs.YtommobflhnphnaaW.PrintLast Go.Maps Go.Lib
set_option linter.unusedVariables false
set_option linter.unusedSimpArgs false

/-- the conversion of bytes to bytes marks their block -/
theorem conv23 (w : World) (C : Array Value) (n c : Nat) : (convert 23 23 (.slice (some ⟨w.heap.size, 0, none⟩) n c)).run Try.prog (w.alloc (.cells C 5)) = .ok (.slice (some ⟨w.heap.size, 0, none⟩) n c) (w.alloc (.cells C 5 (C.size, C.size + 1))) := by
  have hsh : (w.alloc (.cells C 5)).shape? w.heap.size = some (5, C.size) := by
    have : (w.alloc (.cells C 5)).heap[w.heap.size]? = some (.cells C 5) := new_blk w _
    unfold World.shape?
    rw [this]
  have hfr : (w.alloc (.cells C 5)).freeze ⟨w.heap.size, C.size, none⟩ 1 = w.alloc (.cells C 5 (C.size, C.size + 1)) := by
    have hm : ∀ (a : Array Obj) (x : Obj) (f : Obj → Obj), (a.push x).modify a.size f = a.push (f x) := by
      intro a x f
      apply Array.ext
      · simp
      · intro i h1 h2
        simp only [Array.getElem_modify, Array.getElem_push]
        by_cases h : a.size = i
        · subst h
          simp
        · have hi : i < a.size := by simp at h1; omega
          simp [h, hi]
    unfold World.freeze
    rw [if_neg (by decide)]
    show ({ w.alloc (.cells C 5) with heap := (w.heap.push (.cells C 5)).modify w.heap.size _ } : World) = _
    rw [hm]
    rfl
  simp [convert, run_underlying Try.underlying23, run_underlying Try.underlying5, markStringish, hsh]
  exact hfr
end Go.Proofs.Ytommobflhnphnaa.C
namespace Go.Proofs.Ytommobflhnphnaa.C
open Go.RowKit Go.Proofs.Ytommobflhnphnaa.P Go.Proofs.YtommobflhnphnaaBase Go.Proofs.YtommobflhnphnaaW.PrintWords Go.Proofs.YtommobflhnphnaaW.PrintLast Go.Maps Go.Lib
set_option linter.unusedVariables false
set_option linter.unusedSimpArgs false

theorem out_one {n0 : Nat} {W : World} {b m : Nat} {c : Ch} {fr : S25} (h : ChanAt n0 W b m c) (hc : c.conn ≠ 0) (hg : GoodQ c.q) (hw : 1 ≤ c.want ∧ c.want ≤ 1099511627777) (ho : outR c = [fr]) : Calls Try.prog 16 #[.pointer (some ⟨b, 0, none⟩)] W fun e w' => ∃ g cap, e = .returned (.slice (some ⟨g, 0, none⟩) 1 cap) ∧ Kd.R k25 25 w' W.heap.size (fun _ => True) (.slice (some ⟨g, 0, none⟩) 1 cap) [fr] ∧ ChanAt n0 w' b m (outC c) ∧ Ons (two b m) W w' := by
  refine (out_c h hc hg hw).mono fun e w' ⟨v, e1, e2, e3, e4⟩ => ?_
  rw [ho] at e2
  obtain ⟨inner, hown⟩ := Kd.R_own e2
  rcases hown.2 with ⟨_, h0⟩ | ⟨g, cap, cur, rfl, _⟩
  · cases h0
  · exact ⟨g, cap, e1, e2, e3, e4⟩
theorem good1 : GoodQ chA1.q := by
  refine ⟨by decide, fun p hp => ?_⟩
  have : p = ⟨1, [120], false, 0, false⟩ := by simpa [chA1] using hp
  subst this
  exact ⟨by decide, by decide, by decide, by decide⟩
theorem good0 {c : Ch} (h : c.q = []) : GoodQ c.q := by
  rw [h]
  exact ⟨by decide, fun p hp => by cases hp⟩
theorem c_new (W : World) : Kd.C (Kd.int .u8) (W.alloc (.cells #[.int .u8 120] 5 (1, 2))) (some ⟨W.heap.size, 0, none⟩) 1 [120] := by
  refine ⟨rfl, by omega, fun _ => ⟨_, rfl, fun j x hx => ⟨[.int .u8 x], rfl, rfl, fun i u hu => ?_⟩⟩⟩
  have hi : i = 0 := by have := (List.getElem?_eq_some_iff.1 hu).1; simpa using this
  have hj : j = 0 := by have := (List.getElem?_eq_some_iff.1 hx).1; simpa using this
  subst hi
  subst hj
  simp at hx hu
  subst hx
  subst hu
  exact cell_blk (new_blk W _) 0
theorem take_b {n0 : Nat} {W : World} {b m c3 : Nat} {A3 : Option Addr} (h : ChanAt n0 W b m (ch0 1)) (hB : ∀ W', Ons (two b m) W W' → Kd.C (Kd.int .u8) W' A3 1 [120]) (hc : 1 ≤ c3) : Calls Try.prog 14 #[.pointer (some ⟨b, 0, none⟩), .agg #[.int .i64 1, .int .i64 1, .int .i64 0, .slice A3 1 c3]] W fun e w' => ∃ g cap gv cv, e = .returned (.tuple #[.slice (some ⟨g, 0, none⟩) 1 cap, .int .i64 0]) ∧ (∃ cs : Array Value, w'.heap[g]? = some (.cells cs 23 (0, 0)) ∧ cs[0]? = some (.slice (some ⟨gv, 0, none⟩) 1 cv)) ∧ (∃ cs : Array Value, w'.heap[gv]? = some (.cells cs 5 (0, 0)) ∧ cs[0]? = some (.int .u8 120)) ∧ ChanAt n0 w' b m { ch0 1 with want := 2, owes := true } ∧ Ons (two b m) W w' := by
  have := take_c (f := ⟨1, 1, 0, [120]⟩) h (by decide) (by decide) (by decide) (by decide) hB hc (by decide) (by decide) (fun _ _ => trivial)
  rw [takeB] at this
  refine this.mono fun e w' ⟨v, e1, e2, e3, e4⟩ => ?_
  obtain ⟨vs, hl, hR, hvs⟩ := e2
  obtain ⟨inner, hown, hrep⟩ := hR.2
  have hl1 : vs.length = 1 := hl
  obtain ⟨x, rfl⟩ : ∃ x, vs = [x] := by
    match vs, hl1 with
    | [x], _ => exact ⟨x, rfl⟩
  obtain ⟨gv, cv, cs, rfl, k1, k2, k3, _⟩ := hvs 0 x [120] rfl rfl
  rcases hown.2 with ⟨_, h0⟩ | ⟨g, cap, cur, rfl, h2, h3, h4, h5, h6, h7⟩
  · cases h0
  · refine ⟨g, cap, gv, cv, e1, ?_, ?_, e3, e4⟩
    · refine ⟨cur, h3, ?_⟩
      have h8 : (inner.drop (0 * 1)).take 1 = [.slice (some ⟨gv, 0, none⟩) [(120 : Int)].length cv] := (hrep.2 0 _ rfl).1
      have h9 : inner[0]? = some (.slice (some ⟨gv, 0, none⟩) 1 cv) := by
        have := congrArg (fun l : List Value => l[0]?) h8
        simpa using this
      have h10 : (cur.toList.take (1 * 1))[0]? = some (.slice (some ⟨gv, 0, none⟩) 1 cv) := by
        rw [show cur.toList.take (1 * 1) = inner from h7]
        exact h9
      rw [List.getElem?_take, if_pos (by decide)] at h10
      simpa using h10
    · exact ⟨cs, k1, k3 0 120 rfl⟩
theorem take_a {n0 : Nat} {W : World} {b m c3 : Nat} {A3 : Option Addr} (h : ChanAt n0 W b m (outC chA1)) (hB : ∀ W', Ons (two b m) W W' → Kd.C (Kd.int .u8) W' A3 0 []) : Calls Try.prog 14 #[.pointer (some ⟨b, 0, none⟩), .agg #[.int .i64 1, .int .i64 0, .int .i64 1, .slice A3 0 c3]] W fun e w' => ∃ v, e = .returned (.tuple #[v, .int .i64 0]) ∧ ChanAt n0 w' b m { ch0 1 with next := 2 } ∧ Ons (two b m) W w' := by
  have := take_c (f := ⟨1, 0, 1, []⟩) (cf := c3) h (by decide) (by decide) (by decide) (by decide) hB (Nat.zero_le _) (by decide) (by decide) (fun _ _ => trivial)
  rw [takeA] at this
  exact this.mono fun e w' ⟨v, e1, e2, e3, e4⟩ => ⟨v, e1, e3, e4⟩
theorem conv9 (w : World) (gv cv : Nat) (h : w.cell? ⟨gv, 0, none⟩ = some (.int .u8 120)) : (convert 23 9 (.slice (some ⟨gv, 0, none⟩) 1 cv)).run Try.prog w = .ok (.string ⟨#[120]⟩) w := by
  refine run_convert_bytes_back w 23 9 5 ⟨gv, 0, none⟩ cv [120] Try.underlying23 Try.underlying5 Try.underlying9 (fun j hj => ?_)
  have : j = 0 := by simpa using hj
  subst this
  exact h
theorem onb {b m : Nat} {w W W' : World} (hB : Below w.heap.size w W) (ho : Ons (two b m) W W') (h1 : w.heap.size ≤ b) (h2 : w.heap.size ≤ m) : Below w.heap.size w W' :=
  hB.trans (ho.bel _ (by rintro k (rfl | rfl) <;> assumption) hB.size)
theorem calm_a {n0 : Nat} {W : World} {b m : Nat} (h : ChanAt n0 W b m { ch0 1 with next := 2 }) : Calls Try.prog 29 #[.pointer (some ⟨b, 0, none⟩)] W fun e w' => e = .returned (.bool true) ∧ Below W.heap.size W w' := calm_c h (by decide) (by decide)
theorem calm_b {n0 : Nat} {W : World} {b m : Nat} (h : ChanAt n0 W b m (outC { ch0 1 with want := 2, owes := true })) : Calls Try.prog 29 #[.pointer (some ⟨b, 0, none⟩)] W fun e w' => e = .returned (.bool true) ∧ Below W.heap.size W w' := calm_c h (by decide) (by decide)
theorem taken_b {n0 : Nat} {W : World} {b m : Nat} (h : ChanAt n0 W b m (outC { ch0 1 with want := 2, owes := true })) : Calls Try.prog 17 #[.pointer (some ⟨b, 0, none⟩)] W fun e w' => e = .returned (.int .i64 1) ∧ Below W.heap.size W w' := taken_c h (by decide) (by decide)
set_option maxHeartbeats 8000000 in
set_option maxRecDepth 100000 in
theorem awake_c (w : World) : Calls Try.prog 11 #[] w fun e w' => e = .returned (.bool true) ∧ Below w.heap.size w w' := by
  have hcv : ∀ (w : World), (convert 23 23 (.slice (some ⟨w.heap.size, 0, none⟩) 1 1)).run Try.prog (w.alloc (.cells #[.int .u8 120] 5)) = .ok (.slice (some ⟨w.heap.size, 0, none⟩) 1 1) (w.alloc (.cells #[.int .u8 120] 5 (1, 2))) := fun w => conv23 w _ 1 1
  go_enter Try.func11, Try.ntmps11
  go_wp2_with (first
    | (go_at_call 17; (with_reducible refine (taken_b HB8.out).mono ?_); rintro e w11 ⟨rfl, hb11⟩; replace BB := Lib.hid (below_step BB.out hb11); clear hb11)
    | (go_at_call 29; (with_reducible refine (calm_b HB8.out).mono ?_); rintro e w10 ⟨rfl, hb10⟩; replace BB := Lib.hid (below_step BB.out hb10); replace HB8 := Lib.hid (HB8.out.below hb10); clear hb10)
    | (go_at_call 29; (with_reducible refine (calm_a HA8.out).mono ?_); rintro e w9 ⟨rfl, hb9⟩; replace BB := Lib.hid (below_step BB.out hb9); replace HB8 := Lib.hid (HB8.out.below hb9); clear HA8 hb9)
    | (go_at_call 14; (with_reducible refine (take_a HA7.out HR7.out).mono ?_); rintro e w8 ⟨v8, rfl, h1, ho⟩; replace BB := Lib.hid (onb BB.out ho GE.out.1 GE.out.2.1); have HA8 := Lib.hid h1; have HB8 := Lib.hid (HB7.out.other HA7.out ho HNE.out); clear h1 ho HA7)
    | (go_at_call 16; (with_reducible refine (out_one HB6.out (by decide) (good0 rfl) (by decide) outB).mono ?_); rintro e w7 ⟨g7, cap7, rfl, hr, h1, ho⟩; replace BB := Lib.hid (onb BB.out ho GE.out.2.2.1 GE.out.2.2.2); have HB7 := Lib.hid h1; have HA7 := Lib.hid (HA6.out.other HB6.out ho HNF.out); have hk23 := HB6.out.two_kept ho 23 (by decide); have hk5 := HB6.out.two_kept ho 5 (by decide); have t0 := (cell_blk (hk23 _ _ X1.out) (k := 0)).trans Y1.out; have hcv9 := conv9 w7 gv cv ((cell_blk (hk5 _ _ X2.out) (k := 0)).trans Y2.out); have R7 := Lib.hid hr; obtain ⟨ad7, A7, c7, e7, bad, P0, P1, P2, P3, hc7, hread7⟩ := frame_reads R7.out 0 (by decide); clear bad; injection e7 with e7; subst e7; have p0 : w7.cell? ⟨g7, 0, none⟩ = some (.int .i64 1) := P0; have p1 : w7.cell? ⟨g7, 1, none⟩ = some (.int .i64 0) := P1; have p2 : w7.cell? ⟨g7, 2, none⟩ = some (.int .i64 1) := P2; have p3 : w7.cell? ⟨g7, 3, none⟩ = some (.slice A7 0 c7) := P3; have HR7 : Hid (∀ W', Ons (two b m) w7 W' → Kd.C (Kd.int .u8) W' A7 0 []) := Lib.hid (fun W' ho => hread7 W' (HA7.out.two_kept ho 25 (by decide)) (HA7.out.two_kept ho 5 (by decide))); clear P0 P1 P2 P3 hread7 hc7 hr h1 ho hk23 hk5 HB6 HA6)
    | (go_at_call 14; (with_reducible refine (take_b HB5.out HRD.out HC3.out).mono ?_); rintro e w6 ⟨g6, cap6, gv, cv, rfl, ⟨cs1, hx1, hy1⟩, ⟨cs2, hx2, hy2⟩, h1, ho⟩; have HNF : Hid (¬ two b2 m2 b ∧ ¬ two b2 m2 m) := Lib.hid ⟨by rintro (e | e); exact HNE.out.1 (.inl e.symm); exact HNE.out.2 (.inl e.symm), by rintro (e | e); exact HNE.out.1 (.inr e.symm); exact HNE.out.2 (.inr e.symm)⟩; replace BB := Lib.hid (onb BB.out ho GE.out.2.2.1 GE.out.2.2.2); have HB6 := Lib.hid h1; have HA6 := Lib.hid (HA5.out.other HB5.out ho HNF.out); have X1 := Lib.hid hx1; have Y1 := Lib.hid hy1; have X2 := Lib.hid hx2; have Y2 := Lib.hid hy2; clear h1 ho hx1 hx2 hy1 hy2 f0 f1 f2 f3 HB5 HA5)
    | (go_at_call 16; (with_reducible refine (out_one HA4.out (by decide) good1 (by decide) outA).mono ?_); rintro e w5 ⟨g, cap, rfl, hr, h1, ho⟩; replace BB := Lib.hid (onb BB.out ho GE.out.1 GE.out.2.1); have HA5 := Lib.hid h1; have HB5 := Lib.hid (HB4.out.other HA4.out ho HNE.out); have R5 := Lib.hid hr; clear hr h1 ho; obtain ⟨ad, A3, c3, e, bad, F0, F1, F2, F3, hc3, hread⟩ := frame_reads R5.out 0 (by decide); clear bad; injection e with e; subst e; have f0 : w5.cell? ⟨g, 0, none⟩ = some (.int .i64 1) := F0; have f1 : w5.cell? ⟨g, 1, none⟩ = some (.int .i64 1) := F1; have f2 : w5.cell? ⟨g, 2, none⟩ = some (.int .i64 0) := F2; have f3 : w5.cell? ⟨g, 3, none⟩ = some (.slice A3 1 c3) := F3; have HRD : Hid (∀ W', Ons (two b2 m2) w5 W' → Kd.C (Kd.int .u8) W' A3 1 [120]) := Lib.hid (fun W' ho => hread W' (HB5.out.two_kept ho 25 (by decide)) (HB5.out.two_kept ho 5 (by decide))); have HC3 := Lib.hid (show 1 ≤ c3 from hc3); clear F0 F1 F2 F3 hread hc3 HA4 HB4)
    | (go_at_call 13; (with_reducible refine (send_one (cb := 1) (HA3.out.below (below_alloc (Below.refl _ _) (.cells #[.int .u8 120] 5 (1, 2)))) (c_new w3) (Nat.le_refl _)).mono ?_); rintro e w4 ⟨rfl, h1, ho⟩; replace BB := Lib.hid (onb (below_step BB.out (below_alloc (Below.refl _ _) (.cells #[.int .u8 120] 5 (1, 2)))) ho GE.out.1 GE.out.2.1); have HA4 := Lib.hid h1; have HB4 := Lib.hid ((HB3.out.below (below_alloc (Below.refl _ _) (.cells #[.int .u8 120] 5 (1, 2)))).other (HA3.out.below (below_alloc (Below.refl _ _) (.cells #[.int .u8 120] 5 (1, 2)))) ho HNE.out); clear h1 ho hcv HA3 HB3)
    | (go_at_call 12; (with_reducible refine (fresh_c w2).mono ?_); rintro e w3 ⟨b2, m2, rfl, h1, h2, h3⟩; have HA3 := Lib.hid (HA2.out.below h2); have HB3 := Lib.hid h1; have GE : Hid (w.heap.size ≤ b ∧ w.heap.size ≤ m ∧ w.heap.size ≤ b2 ∧ w.heap.size ≤ m2) := Lib.hid ⟨HA2.out.hb, HA2.out.hm, Nat.le_trans BB.out.size h1.hb, Nat.le_trans BB.out.size h1.hm⟩; replace BB := Lib.hid (below_step BB.out h2); have HNE : Hid (¬ two b m b2 ∧ ¬ two b m m2) := Lib.hid (by have := HA2.out.ltb; have := HA2.out.e.lt; have := h1.hb; have := h1.hm; constructor <;> (rintro (e | e) <;> omega)); clear h1 h2 h3)
    | (go_at_call 12; (with_reducible refine (fresh_c w).mono ?_); rintro e w2 ⟨b, m, rfl, h1, h2, h3⟩; have HA2 := Lib.hid h1; have BB := Lib.hid h2; clear h1 h2 h3))
  go_ret
  exact ⟨rfl, BB.out⟩
end Go.Proofs.Ytommobflhnphnaa.C
namespace Go.Proofs.Ytommobflhnphnaa.C
open Go.RowKit Go.Proofs.Ytommobflhnphnaa.P Go.Proofs.YtommobflhnphnaaBase Go.Proofs.YtommobflhnphnaaW.PrintWords Go.Proofs.YtommobflhnphnaaW.PrintLast Go.Maps Go.Lib
set_option linter.unusedVariables false
set_option linter.unusedSimpArgs false

def g25 (k : S25) : Prop := (Lit.int .i64 k.f0).wf = true ∧ (Lit.int .i64 k.f1).wf = true ∧ (Lit.int .i64 k.f2).wf = true ∧ k.f3.length ≤ maxLen ∧ ∀ x ∈ k.f3, (Lit.int .u8 x).wf = true
theorem op23 {H : Type} {enc : TypeId × Value → H} {w : World} : Opn enc Try.prog w 23 (Kd.slice 5 (Kd.int .u8)) (fun xs => xs.length ≤ maxLen ∧ ∀ x ∈ xs, (Lit.int .u8 x).wf = true) := Opn.slice Try.underlying23 (Opn.int Try.underlying5) (by kernel_rfl)
theorem op25 {H : Type} {enc : TypeId × Value → H} {w : World} : Opn enc Try.prog w 25 k25 g25 :=
  (Opn.struct (d := Kd.pair (Kd.int .i64) (Kd.pair (Kd.int .i64) (Kd.pair (Kd.int .i64) (Kd.slice 5 (Kd.int .u8))))) Try.underlying25 (by kernel_rfl) (OpF.cons (Opn.int Try.underlying3) rfl (by kernel_rfl) (OpF.cons (Opn.int Try.underlying3) rfl (by kernel_rfl) (OpF.cons (Opn.int Try.underlying3) rfl (by kernel_rfl) (OpF.one op23 rfl (by kernel_rfl)))))).iso (fun x : S25 => (x.f0, x.f1, x.f2, x.f3)) (fun x => ⟨x.1, x.2.1, x.2.2.1, x.2.2.2⟩) (fun _ => rfl)
/-- what stands of ChannelNobody's memory -/
structure NB (w W : World) (x0 x1 x2 : Int) (A : Option Addr) (l c : Nat) : Prop where
  B : Below w.heap.size w W
  x : W.heap[w.heap.size]? = some (.cells #[.int .i64 x0, .int .i64 x1, .int .i64 x2, .slice A l c] 25 (0, 0))
  z : W.heap[w.heap.size + 1]? = some (.cells #[.int .i64 0, .slice none 0 0, .int .i64 0, .map none, .bool false, .int .i64 0] 68 (0, 0))
  s : W.heap[w.heap.size + 1 + 1]? = some (.cells #[.pointer none, .pointer (some ⟨w.heap.size + 1, 0, none⟩)] 30 (0, 0))
theorem NB.below {w W W' : World} {x0 x1 x2 : Int} {A : Option Addr} {l c : Nat} (h : NB w W x0 x1 x2 A l c) (hb : Below W.heap.size W W') : NB w W' x0 x1 x2 A l c := ⟨below_step h.B hb, keep_blk hb h.x, keep_blk hb h.z, keep_blk hb h.s⟩
set_option maxRecDepth 100000 in
set_option maxHeartbeats 16000000 in
theorem nobody_walk (w : World) (x0 x1 x2 : Int) (A : Option Addr) (l c : Nat) : Calls Try.prog 7 #[.agg #[.int .i64 x0, .int .i64 x1, .int .i64 x2, .slice A l c]] w fun e w' => e = .returned (.bool true) ∧ Below w.heap.size w w' := by
  go_enter Try.func7, Try.ntmps7
  go_wp2
  go_loopw [11] (fun i wr => ∃ k : Nat, k ≤ 2 ∧ i = .int .i64 k ∧ Hid (NB w wr x0 x1 x2 A l c)) (fun i _ => 2 - (intOf i).toNat)
  case atStart =>
    refine ⟨0, by omega, rfl, Lib.hid ⟨below_alloc (below_alloc (below_alloc (Below.refl _ _) _) _) _, ?_, ?_, ?_⟩⟩
    · exact old_blk (old_blk (new_blk w _) _) _
    · exact old_blk (by simpa using new_blk (w.alloc _) (.cells #[.int .i64 0, .slice none 0 0, .int .i64 0, .map none, .bool false, .int .i64 0] 68)) _
    · simpa using new_blk ((w.alloc _).alloc _) (.cells #[.pointer none, .pointer (some ⟨w.heap.size + 1, 0, none⟩)] 30)
  case round =>
    obtain ⟨k, hk, rfl, NN⟩ := hrel
    by_cases hlt : k < 2
    · have hv : ∃ A', NoEnd wr A' ∧ wr.cell? ⟨w.heap.size + 1 + 1, k, none⟩ = some (.pointer A') := by
        obtain ⟨y0, y1⟩ := boxed2 NN.out.s
        have : k = 0 ∨ k = 1 := by omega
        rcases this with rfl | rfl
        · exact ⟨_, .inl rfl, y0⟩
        · exact ⟨_, .inr ⟨_, rfl, NN.out.z⟩, y1⟩
      obtain ⟨A', hd, hcell⟩ := hv
      have HD := Lib.hid hd
      clear hd
      have zs := lt_blk NN.out.s
      obtain ⟨x0', x1', x2', x3'⟩ := boxed4 NN.out.x
      go_wp2_with (first
        | (go_at_call 32; (with_reducible refine (noclone HD8.out).mono ?_); rintro e w9 ⟨rfl, hb9⟩; have N9 := Lib.hid (N8.out.below hb9))
        | (go_at_call 29; (with_reducible refine (nocalm HD7.out).mono ?_); rintro e w8 ⟨rfl, hb8⟩; have HD8 := Lib.hid (HD7.out.below hb8); have N8 := Lib.hid (N7.out.below hb8))
        | (go_at_call 30; (with_reducible refine (noconn HD6.out).mono ?_); rintro e w7 ⟨rfl, hb7⟩; have HD7 := Lib.hid (HD6.out.below hb7); have N7 := Lib.hid (N6.out.below hb7))
        | (go_at_call 17; (with_reducible refine (notaken HD5.out).mono ?_); rintro e w6 ⟨rfl, hb6⟩; have HD6 := Lib.hid (HD5.out.below hb6); have N6 := Lib.hid (N5.out.below hb6))
        | (go_at_call 18; (with_reducible refine (nowait HD4.out).mono ?_); rintro e w5 ⟨rfl, hb5⟩; have HD5 := Lib.hid (HD4.out.below hb5); have N5 := Lib.hid (N4.out.below hb5))
        | (go_at_call 16; (with_reducible refine (noout HD3.out).mono ?_); rintro e w4 ⟨rfl, hb4⟩; have HD4 := Lib.hid (HD3.out.below hb4); have N4 := Lib.hid (N3.out.below hb4))
        | (go_at_call 15; (with_reducible refine (notick HD2.out).mono ?_); rintro e w3 ⟨rfl, hb3⟩; have HD3 := Lib.hid (HD2.out.below hb3); have N3 := Lib.hid (N2.out.below hb3))
        | (go_at_call 13; (with_reducible refine (nosend HD1.out).mono ?_); rintro e w2 ⟨rfl, hb2⟩; have HD2 := Lib.hid (HD1.out.below hb2); have N2 := Lib.hid (N1.out.below hb2))
        | (go_at_call 14; (with_reducible refine (notake HD.out).mono ?_); rintro e w1 ⟨rfl, hb1⟩; have HD1 := Lib.hid (HD.out.below hb1); have N1 := Lib.hid (NN.out.below hb1); obtain ⟨y0', y1', y2', y3'⟩ := boxed4 N1.out.x))
      go_roundw
      case rel => exact ⟨k + 1, by omega, by go_num, N9⟩
      case measure => simp [intOf]; omega
    · have hkl : k = 2 := by omega
      subst hkl
      go_wp2_with (first
        | (go_at_call 11; (with_reducible refine (awake_c _).mono ?_); rintro e w9 ⟨rfl, hb9⟩))
      go_ret
      exact ⟨rfl, below_step NN.out.B hb9⟩
theorem nobody_row (w : World) (cs : Array Value) (k : S25) (h : k25.K w k (Value.agg cs).cells.toList) (g : g25 k) : Calls Try.prog 7 #[.agg cs] w fun e w' => e = .returned (.bool true) ∧ Below w.heap.size w w' := by
  obtain ⟨A3, c3, e, _, _⟩ := k25_open h
  have hcs : cs = #[.int .i64 k.f0, .int .i64 k.f1, .int .i64 k.f2, .slice A3 k.f3.length c3] := by
    cases cs
    simpa [Value.cells] using e
  subst hcs
  exact nobody_walk w k.f0 k.f1 k.f2 A3 k.f3.length c3
end Go.Proofs.Ytommobflhnphnaa.C
namespace Go.Proofs.Ytommobflhnphnaa.C
open Go.RowKit Go.Proofs.Ytommobflhnphnaa.P
set_option linter.unusedVariables false
set_option linter.unusedSimpArgs false

/-- what always holds of an end; t: how many frames it took -/
structure Good (c : Ch) (t : Int) : Prop where
  conn : c.conn = 1 ∨ c.conn ≠ 0
  q : GoodQ c.q
  next : 1 ≤ c.next ∧ c.next ≤ 1099511627777
  want : 1 ≤ c.want ∧ c.want ≤ 1 + 4 * t
  el : ∀ p ∈ c.el, c.want < p.1 ∧ p.1 < c.want + 4
  nd : (c.el.map (·.1)).Nodup
  seq : ∀ (i : Nat) (p : Pa), c.q[i]? = some p → p.seq = c.next - c.q.length + i
  lq : (c.q.length : Int) + 1 ≤ c.next
theorem Good.fresh (conn : Int) (h : conn ≠ 0) : Good (ch0 conn) 0 where
  conn := .inr h
  q := ⟨Nat.zero_le _, fun p hp => nomatch hp⟩
  next := ⟨Int.le_refl 1, by show (1 : Int) ≤ _; omega⟩
  want := ⟨Int.le_refl 1, by show (1 : Int) ≤ _; omega⟩
  el := fun p hp => nomatch hp
  nd := List.nodup_nil
  seq := fun i p hp => by simp [ch0] at hp
  lq := by show ((0 : Nat) : Int) + 1 ≤ 1; omega
theorem Good.mono {c : Ch} {t t' : Int} (h : Good c t) (ht : t ≤ t') : Good c t' := { h with want := ⟨h.want.1, by have := h.want.2; omega⟩ }
theorem nodup_range {l : List Int} (nd : l.Nodup) {a : Int} {k : Nat} (h : ∀ x ∈ l, a < x ∧ x < a + k) : l.length ≤ k - 1 := by
  have key : ∀ (k : Nat) (l : List Int), l.Nodup → (∀ x ∈ l, a < x ∧ x < a + k) → l.length ≤ k - 1 := by
    intro k
    induction k with
    | zero =>
      intro l _ h
      cases l with
      | nil => simp
      | cons x r => have := h x (by simp); omega
    | succ k ih =>
      intro l nd h
      by_cases hm : (a + k) ∈ l
      · have h1 : (l.erase (a + k)).length = l.length - 1 := List.length_erase_of_mem hm
        have h2 := ih (l.erase (a + k)) (nd.erase _) (fun x hx => by
          have h3 := (List.Nodup.mem_erase_iff nd).1 hx
          have h4 := h x h3.2
          have := h3.1
          omega)
        by_cases hk : k = 0
        · subst hk
          have := h _ hm
          omega
        · omega
      · have h2 := ih l nd (fun x hx => by
          have h4 := h x hx
          have : x ≠ a + k := fun e => hm (e ▸ hx)
          omega)
        omega
  exact key k l nd h
theorem Good.el3 {c : Ch} {t : Int} (h : Good c t) : c.el.length ≤ 3 := by
  have := nodup_range (k := 4) h.nd (a := c.want) (fun x hx => by
    obtain ⟨p, hp, rfl⟩ := List.mem_map.1 hx
    exact h.el p hp)
  rw [List.length_map] at this
  omega
theorem Good.send {c : Ch} {t : Int} (h : Good c t) (bs : List Int) : Good (sendF c bs).1 t := by
  unfold sendF
  split
  · exact h
  split
  · exact h
  split
  · exact h
  split
  · exact h
  next h1 h2 h3 h4 =>
  refine ⟨h.conn, ⟨by simp; omega, fun p hp => ?_⟩, ⟨by have := h.next; show 1 ≤ c.next + 1; omega, by show c.next + 1 ≤ _; omega⟩, h.want, h.el, h.nd, fun i p hp => ?_, ?_⟩
  · rcases List.mem_append.1 hp with hp | hp
    · exact h.q.2 p hp
    · have : p = (⟨c.next, bs, false, 0, false⟩ : Pa) := by simpa using hp
      subst this
      exact ⟨by show (0 : Int) ≤ 0; omega, by show (0 : Int) ≤ 2; omega, by show 0 < bs.length; omega, by show bs.length ≤ _; omega⟩
  · show p.seq = c.next + 1 - ((c.q ++ [(⟨c.next, bs, false, 0, false⟩ : Pa)]).length : Nat) + i
    rw [List.length_append, List.length_singleton]
    by_cases hi : i < c.q.length
    · have hp' : c.q[i]? = some p := by rw [← hp]; exact (List.getElem?_append_left hi).symm
      have := h.seq i p hp'
      omega
    · have hl := (List.getElem?_eq_some_iff.1 hp).1
      have hl2 : i < (c.q ++ [(⟨c.next, bs, false, 0, false⟩ : Pa)]).length := hl
      rw [List.length_append, List.length_singleton] at hl2
      have hi2 : i = c.q.length := by omega
      subst hi2
      have : p = (⟨c.next, bs, false, 0, false⟩ : Pa) := by
        have h5 : (c.q ++ [(⟨c.next, bs, false, 0, false⟩ : Pa)])[c.q.length]? = some p := hp
        simpa using h5.symm
      subst this
      show c.next = _
      omega
  · show ((c.q ++ [(⟨c.next, bs, false, 0, false⟩ : Pa)]).length : Int) + 1 ≤ c.next + 1
    rw [List.length_append, List.length_singleton]
    have := h.lq
    omega
theorem acked_drop (ack : Int) (q : List Pa) : ∃ n, ackedF ack q = q.drop n ∧ n ≤ q.length ∧ ∀ (i : Nat) (p : Pa), q[i]? = some p → i < n → p.seq ≤ ack ∧ p.sent = true := by
  induction q with
  | nil => exact ⟨0, rfl, Nat.le_refl _, fun i p hp => by simp at hp⟩
  | cons p r ih =>
    obtain ⟨n, h1, h2, h3⟩ := ih
    simp only [ackedF]
    split
    · next hc =>
      refine ⟨n + 1, by rw [h1]; rfl, by simp; omega, fun i p' hp hi => ?_⟩
      cases i with
      | zero => simp at hp; subst hp; exact hc
      | succ i => exact h3 i p' (by simpa using hp) (by omega)
    · exact ⟨0, rfl, Nat.zero_le _, fun i p' hp hi => by omega⟩
theorem Good.acked {c : Ch} {t : Int} (h : Good c t) (ack : Int) : Good { c with q := ackedF ack c.q } t := by
  obtain ⟨n, h1, h2, h3⟩ := acked_drop ack c.q
  refine ⟨h.conn, ⟨?_, fun p hp => ?_⟩, h.next, h.want, h.el, h.nd, fun i p hp => ?_, ?_⟩
  · show (ackedF ack c.q).length ≤ 32
    rw [h1, List.length_drop]
    have := h.q.1
    omega
  · have hp' : p ∈ ackedF ack c.q := hp
    rw [h1] at hp'
    exact h.q.2 p (List.mem_of_mem_drop hp')
  · show p.seq = c.next - ((ackedF ack c.q).length : Nat) + i
    have hp' : (ackedF ack c.q)[i]? = some p := hp
    rw [h1, List.getElem?_drop] at hp'
    have := h.seq _ p hp'
    rw [h1, List.length_drop]
    omega
  · show ((ackedF ack c.q).length : Int) + 1 ≤ c.next
    rw [h1, List.length_drop]
    have := h.lq
    omega
theorem Good.owe {c : Ch} {t : Int} (h : Good c t) (o : Bool) : Good { c with owes := o } t := ⟨h.conn, h.q, h.next, h.want, h.el, h.nd, h.seq, h.lq⟩
theorem find_mem {el : El} {z : Int} {bs : List Int} (h : find el z = some bs) : (z, bs) ∈ el := by
  unfold find at h
  obtain ⟨p, hp, rfl⟩ := Option.map_eq_some_iff.1 h
  have h1 := List.find?_some hp
  have h2 := List.mem_of_find?_eq_some hp
  have : p.1 = z := by simpa using h1
  rw [← this]
  exact h2
theorem find_iff {el : El} (nd : (el.map (·.1)).Nodup) {z : Int} {bs : List Int} : find el z = some bs ↔ (z, bs) ∈ el := by
  refine ⟨find_mem, fun hm => ?_⟩
  cases hf : find el z with
  | none => exact absurd (List.mem_map_of_mem hm (f := (·.1))) (find_none hf)
  | some b2 =>
    have h2 := find_mem hf
    induction el with
    | nil => cases hm
    | cons p r ih =>
      rw [List.map_cons, List.nodup_cons] at nd
      rcases List.mem_cons.1 hm with rfl | hm'
      · rcases List.mem_cons.1 h2 with h3 | h3
        · injection h3 with _ h3; rw [h3]
        · exact absurd (List.mem_map_of_mem h3 (f := (·.1))) nd.1
      · rcases List.mem_cons.1 h2 with rfl | h3
        · exact absurd (List.mem_map_of_mem hm' (f := (·.1))) nd.1
        · have hne : (p.1 == z) = false := by
            have : p.1 ≠ z := fun e => nd.1 (e ▸ List.mem_map_of_mem hm' (f := (·.1)))
            simpa using this
          refine ih nd.2 hm' ?_ h3
          unfold find at hf ⊢
          rw [List.find?_cons, hne] at hf
          exact hf
/-- what draining leaves -/
theorem drain_spec : ∀ (n : Nat) (el : El) (w : Int), el.length ≤ n → (el.map (·.1)).Nodup → (∀ p ∈ el, w ≤ p.1) →
    w ≤ (drain n el w).2.2 ∧ (drain n el w).2.1 = el.filter (fun p => decide ((drain n el w).2.2 ≤ p.1)) ∧ find (drain n el w).2.1 (drain n el w).2.2 = none ∧ ((drain n el w).1.length : Int) = (drain n el w).2.2 - w ∧ ∀ (i : Nat) (bs : List Int), (drain n el w).1[i]? = some bs → find el (w + i) = some bs := by
  intro n
  induction n with
  | zero =>
    intro el w hn nd lo
    have : el = [] := List.eq_nil_of_length_eq_zero (by omega)
    subst this
    exact ⟨Int.le_refl _, rfl, rfl, by simp [drain], fun i bs h => by simp [drain] at h⟩
  | succ n ih =>
    intro el w hn nd lo
    cases hf : find el w with
    | none =>
      rw [drain_none hf]
      refine ⟨Int.le_refl _, ?_, hf, by simp, fun i bs h => by simp at h⟩
      show el = el.filter _
      rw [List.filter_eq_self.2]
      intro p hp
      simpa using lo p hp
    | some bs =>
      have hlen := strike_len nd hf
      have lo' : ∀ p ∈ strike el w, w + 1 ≤ p.1 := fun p hp => by
        unfold strike at hp
        rw [List.mem_filter] at hp
        have h1 := lo p hp.1
        have h2 : p.1 ≠ w := by simpa using hp.2
        omega
      obtain ⟨h1, h2, h3, h4, h5⟩ := ih (strike el w) (w + 1) (by omega) (strike_nd nd w) lo'
      rw [drain_some hf]
      refine ⟨by show w ≤ (drain n (strike el w) (w + 1)).2.2; omega, ?_, h3, ?_, fun i b hb => ?_⟩
      · show (drain n (strike el w) (w + 1)).2.1 = el.filter (fun p => decide ((drain n (strike el w) (w + 1)).2.2 ≤ p.1))
        conv => lhs; rw [h2]
        unfold strike
        rw [List.filter_filter]
        apply List.filter_congr
        intro p hp
        unfold strike at h1
        by_cases e : p.1 = w
        · simp [e]
          omega
        · simp [e]
      · show ((bs :: (drain n (strike el w) (w + 1)).1).length : Int) = (drain n (strike el w) (w + 1)).2.2 - w
        rw [List.length_cons]
        omega
      · cases i with
        | zero =>
          have : bs = b := by simpa using hb
          subst this
          rw [show w + ((0 : Nat) : Int) = w by omega]
          exact hf
        | succ i =>
          have hb' : (drain n (strike el w) (w + 1)).1[i]? = some b := by simpa using hb
          have h6 := h5 i b hb'
          rw [find_strike, if_neg (by omega)] at h6
          rw [show w + ((i + 1 : Nat) : Int) = w + 1 + i by omega]
          exact h6
theorem elF_nd {c : Ch} {f : S25} (h : (c.el.map (·.1)).Nodup) : ((elF c f).map (·.1)).Nodup := by
  unfold elF
  split
  · exact h
  · next hf =>
    rw [List.map_append, List.nodup_append]
    refine ⟨h, by simp, fun x hx y hy => ?_⟩
    have : y = f.f1 := by simpa using hy
    subst this
    rintro rfl
    exact find_none hf hx
theorem elF_mem {c : Ch} {f : S25} {p : Int × List Int} (h : p ∈ elF c f) : p ∈ c.el ∨ p = (f.f1, f.f3) := by
  unfold elF at h
  split at h
  · exact .inl h
  · rcases List.mem_append.1 h with h | h
    · exact .inl h
    · exact .inr (by simpa using h)
theorem drain_top {n : Nat} {el : El} {w b : Int} (hn : el.length ≤ n) (nd : (el.map (·.1)).Nodup) (lo : ∀ p ∈ el, w ≤ p.1) (hi : ∀ p ∈ el, p.1 < b) (hb : w ≤ b) : (drain n el w).2.2 ≤ b := by
  obtain ⟨h1, h2, h3, h4, h5⟩ := drain_spec n el w hn nd lo
  by_cases e : (drain n el w).2.2 ≤ w
  · omega
  · have hlen : (drain n el w).1.length - 1 < (drain n el w).1.length := by omega
    have h6 := find_mem (h5 _ _ (List.getElem?_eq_getElem hlen))
    have h7 := hi _ h6
    simp only at h7
    omega
theorem Good.take {c : Ch} {t : Int} (h : Good c t) (f : S25) (ht : 0 ≤ t) : Good (takeF c f).1 (t + 1) := by
  unfold takeF
  split
  · exact h.mono (by omega)
  split
  · exact h.mono (by omega)
  split
  · exact (h.acked _).mono (by omega)
  split
  · exact ((h.acked _).owe true).mono (by omega)
  next h1 h2 h3 h4 =>
  have hw : c.want ≤ f.f1 ∧ f.f1 < c.want + 4 := by omega
  have nd := elF_nd (f := f) h.nd
  have lo : ∀ p ∈ elF c f, c.want ≤ p.1 ∧ p.1 < c.want + 4 := fun p hp => by
    rcases elF_mem hp with hp | rfl
    · have := h.el p hp; omega
    · exact hw
  obtain ⟨d1, d2, d3, d4, d5⟩ := drain_spec (elF c f).length (elF c f) c.want (Nat.le_refl _) nd (fun p hp => (lo p hp).1)
  have top := drain_top (Nat.le_refl _) nd (fun p hp => (lo p hp).1) (fun p hp => (lo p hp).2) (by omega)
  have hg := (h.acked f.f2).owe true
  have hww := h.want
  refine ⟨hg.conn, hg.q, hg.next, ⟨by show 1 ≤ (drain _ _ _).2.2; omega, by show (drain _ _ _).2.2 ≤ _; omega⟩, fun p hp => ?_, ?_, hg.seq, hg.lq⟩
  · have hp' : p ∈ (drain (elF c f).length (elF c f) c.want).2.1 := hp
    have hne : p.1 ≠ (drain (elF c f).length (elF c f) c.want).2.2 := fun e => find_none d3 (e ▸ List.mem_map_of_mem hp' (f := (·.1)))
    rw [d2, List.mem_filter] at hp'
    have h5 := lo p hp'.1
    have h6 : (drain (elF c f).length (elF c f) c.want).2.2 ≤ p.1 := by simpa using hp'.2
    constructor
    · show (drain (elF c f).length (elF c f) c.want).2.2 < p.1; omega
    · show p.1 < (drain (elF c f).length (elF c f) c.want).2.2 + 4; omega
  · show ((drain (elF c f).length (elF c f) c.want).2.1.map (·.1)).Nodup
    rw [d2]
    exact List.Nodup.sublist (List.Sublist.map _ List.filter_sublist) nd
theorem Good.tick {c : Ch} {t : Int} (h : Good c t) : Good { c with q := c.q.map tickP } t := by
  have hseq : ∀ p, (tickP p).seq = p.seq := fun p => by unfold tickP; split <;> (try split) <;> rfl
  refine ⟨h.conn, ⟨by show (c.q.map tickP).length ≤ 32; rw [List.length_map]; exact h.q.1, fun p hp => ?_⟩, h.next, h.want, h.el, h.nd, fun i p hp => ?_, by show ((c.q.map tickP).length : Int) + 1 ≤ _; rw [List.length_map]; exact h.lq⟩
  · obtain ⟨p0, hp0, rfl⟩ := List.mem_map.1 hp
    obtain ⟨a1, a2, a3, a4⟩ := h.q.2 p0 hp0
    unfold tickP
    split
    · split
      · exact ⟨by show (0 : Int) ≤ 0; omega, by show (0 : Int) ≤ 2; omega, a3, a4⟩
      · exact ⟨by show 0 ≤ p0.age + 1; omega, by show p0.age + 1 ≤ 2; omega, a3, a4⟩
    · exact ⟨a1, a2, a3, a4⟩
  · have hp' : (c.q.map tickP)[i]? = some p := hp
    rw [List.getElem?_map] at hp'
    obtain ⟨p0, hp0, rfl⟩ := Option.map_eq_some_iff.1 hp'
    show (tickP p0).seq = c.next - ((c.q.map tickP).length : Nat) + i
    rw [hseq, List.length_map]
    exact h.seq i p0 hp0
theorem outP_seq (p : Pa) : (outP p).seq = p.seq ∧ (outP p).body = p.body := by unfold outP; split <;> exact ⟨rfl, rfl⟩
theorem outQ_len (q : List Pa) : (outQ q).length = q.length := mapK_len _ _ _
theorem outQ_get (q : List Pa) (j : Nat) : (outQ q)[j]? = if j < 4 then (q[j]?).map outP else q[j]? := by
  unfold outQ
  rw [mapK_get]
  by_cases h : j < q.length
  · by_cases h4 : j < 4
    · rw [if_pos (by omega), if_pos h4]
    · rw [if_neg (by omega), if_neg h4]
  · rw [if_neg (by omega)]
    have : q[j]? = none := List.getElem?_eq_none (by omega)
    rw [this]
    split <;> rfl
theorem Good.out {c : Ch} {t : Int} (h : Good c t) : Good (outC c) t := by
  refine ⟨h.conn, ⟨by show (outQ c.q).length ≤ 32; rw [outQ_len]; exact h.q.1, fun p hp => ?_⟩, h.next, h.want, h.el, h.nd, fun i p hp => ?_, by show ((outQ c.q).length : Int) + 1 ≤ _; rw [outQ_len]; exact h.lq⟩
  · obtain ⟨i, hi⟩ := List.getElem?_of_mem (show p ∈ outQ c.q from hp)
    rw [outQ_get] at hi
    split at hi
    · obtain ⟨p0, hp0, rfl⟩ := Option.map_eq_some_iff.1 hi
      obtain ⟨a1, a2, a3, a4⟩ := h.q.2 p0 (List.mem_of_getElem? hp0)
      unfold outP
      split
      · exact ⟨a1, a2, a3, a4⟩
      · exact ⟨by show (0 : Int) ≤ 0; omega, by show (0 : Int) ≤ 2; omega, a3, a4⟩
    · exact h.q.2 p (List.mem_of_getElem? hi)
  · have hp' : (outQ c.q)[i]? = some p := hp
    show p.seq = c.next - ((outQ c.q).length : Nat) + i
    rw [outQ_len]
    rw [outQ_get] at hp'
    split at hp'
    · obtain ⟨p0, hp0, rfl⟩ := Option.map_eq_some_iff.1 hp'
      rw [(outP_seq p0).1]
      exact h.seq i p0 hp0
    · exact h.seq i p hp'
theorem send_conn (c : Ch) (bs : List Int) : (sendF c bs).1.conn = c.conn := by unfold sendF; repeat' (first | rfl | split)
theorem take_connF (c : Ch) (f : S25) : (takeF c f).1.conn = c.conn := by unfold takeF; repeat' (first | rfl | split)
end Go.Proofs.Ytommobflhnphnaa.C
namespace Go.Proofs.Ytommobflhnphnaa.C
open Go.RowKit Go.Proofs.Ytommobflhnphnaa.P Go.Proofs.YtommobflhnphnaaBase Go.Proofs.YtommobflhnphnaaW.PrintWords Go.Proofs.YtommobflhnphnaaW.PrintLast Go.Proofs.YtommobflhnphnaaW.PrintMore Go.Maps Go.Lib
set_option linter.unusedVariables false
set_option linter.unusedSimpArgs false

theorem short_sum (l : List S28) : ∀ (n i : Nat) (s : Int), i + n = l.length → 0 ≤ s → s ≤ 70000 → ∃ r, sealskinlaw14_short.l0 (n + 1) l s i = some r ∧ (r = true → l.length ≤ 200 ∧ s ≤ 32768 ∧ ∀ (j : Nat) (k : S28), i ≤ j → l[j]? = some k → k.f1.f3.length ≤ 32768) := by
  intro n
  induction n with
  | zero =>
    intro i s hi h0 h1
    rw [sealskinlaw14_short.l0, if_neg (by omega)]
    by_cases h : (l.length : Int) ≤ 200
    · rw [if_pos h]
      exact ⟨_, rfl, fun hr => ⟨by omega, of_decide_eq_true hr, fun j k hj hk => absurd (List.getElem?_eq_some_iff.1 hk).1 (by omega)⟩⟩
    · rw [if_neg h]
      exact ⟨_, rfl, fun hr => by cases hr⟩
  | succ n ih =>
    intro i s hi h0 h1
    rw [sealskinlaw14_short.l0, if_pos (by omega)]
    by_cases h2 : (i : Int) ≤ 200
    · rw [if_pos h2]
      by_cases h3 : s ≤ 32768
      · rw [if_pos h3, if_pos (by omega)]
        have hL : (rd_T28 l (i : Int)) = l[i]'(by omega) := by
          unfold rd_T28
          rw [Int.toNat_natCast, List.getD_eq_getElem?_getD, List.getElem?_eq_getElem (by omega)]
          rfl
        rw [hL]
        have hm : 0 ≤ mn ((l[i]'(by omega)).f1.f3.length : Int) 32769 ∧ mn ((l[i]'(by omega)).f1.f3.length : Int) 32769 ≤ 32769 ∧ (32768 < (l[i]'(by omega)).f1.f3.length → mn ((l[i]'(by omega)).f1.f3.length : Int) 32769 = 32769) := by
          unfold mn
          split <;> omega
        obtain ⟨m1, m2, m3⟩ := hm
        rw [show wrap64 (s + mn ((l[i]'(by omega)).f1.f3.length : Int) 32769) = s + mn ((l[i]'(by omega)).f1.f3.length : Int) 32769 by unfold wrap64; omega, show wrap64 ((i : Int) + 1) = ((i + 1 : Nat) : Int) by unfold wrap64; omega]
        obtain ⟨r, e1, e2⟩ := ih (i + 1) (s + mn ((l[i]'(by omega)).f1.f3.length : Int) 32769) (by omega) (by omega) (by omega)
        refine ⟨r, e1, fun hr => ?_⟩
        obtain ⟨a1, a2, a3⟩ := e2 hr
        refine ⟨a1, by omega, fun j k hj hk => ?_⟩
        by_cases e : j = i
        · subst e
          rw [List.getElem?_eq_getElem (by omega)] at hk
          injection hk with hk
          subst hk
          omega
        · exact a3 j k (by omega) hk
      · rw [if_neg h3]
        by_cases h : (l.length : Int) ≤ 200
        · rw [if_pos h]
          exact ⟨_, rfl, fun hr => absurd (of_decide_eq_true hr) h3⟩
        · rw [if_neg h]
          exact ⟨_, rfl, fun hr => by cases hr⟩
    · rw [if_neg h2]
      rw [if_neg (by omega)]
      exact ⟨_, rfl, fun hr => by cases hr⟩
def Short (l : List S28) : Prop := l.length ≤ 200 ∧ ∀ k ∈ l, k.f1.f3.length ≤ 32768
theorem short_c {w : World} {A : Option Addr} {n c : Nat} {l : List S28} (hC : Kd.C k28 w A n l) (hc : n ≤ c) : Calls Try.prog 10 #[.slice A n c] w fun e w' => ∃ r, e = .returned (.bool r) ∧ (r = true → Short l) ∧ Below w.heap.size w w' := by
  have hn : l.length = n := hC.1
  subst hn
  obtain ⟨r, e1, e2⟩ := short_sum l l.length 0 0 (by omega) (by omega) (by omega)
  refine (sealskinlaw14_short.calls (l.length + 1) A c l r w hC hc e1).mono fun e w' ⟨a, b⟩ => ⟨r, a, fun hr => ?_, b⟩
  obtain ⟨a1, a2, a3⟩ := e2 hr
  refine ⟨a1, fun k hk => ?_⟩
  obtain ⟨j, hj⟩ := List.getElem?_of_mem hk
  exact a3 j k (Nat.zero_le _) hj
/-- elements as they read in one given world -/
def fixed {α : Type} (d : Kd α) (W0 : World) : Kd α where
  sz := d.sz
  E := []
  K := fun _ x cs => d.K W0 x cs
  M := fun _ _ _ x cs => d.K W0 x cs
  K_len := fun h => d.K_len h
  K_one := fun h => d.K_one h
  K_below := fun _ h => h
  K_of_M := fun h => h
  M_mono := fun _ h => h
  M_bound := fun h => h
  M_move := fun _ h => h
  M_lower := fun _ h => h
theorem fixed_C {α : Type} {d : Kd α} {W0 w : World} {A : Option Addr} {n : Nat} {xs : List α} (h : Kd.C (fixed d W0) w A n xs) (hb : Below W0.heap.size W0 w) : Kd.C d w A n xs :=
  ReadsRow.imp_ h (Below.refl _ _) (fun p c hp => d.K_below hb hp)
def opm (x : Int) : Int := wrap64 (Int.tmod (IntKind.u64.wrap x) 6)
theorem opm_in (x : Int) : opm x = 0 ∨ opm x = 1 ∨ opm x = 2 ∨ opm x = 3 ∨ opm x = 4 ∨ opm x = 5 := by
  have h0 : 0 ≤ IntKind.u64.wrap x := by
    rw [IntKind.wrap_u64]; omega
  have h1 := Int.tmod_nonneg 6 h0
  have h2 := Int.tmod_lt_of_pos (IntKind.u64.wrap x) (show (0 : Int) < 6 by omega)
  unfold opm wrap64
  omega
theorem again_law {c : Ch} {t : Int} (h : Good c t) (ht : 0 ≤ t) (f : S25) : (takeF (takeF c f).1 f).2.2 = (takeF c f).2.2 ∧ (takeF (takeF c f).1 f).2.1 = [] ∧ (takeF (takeF c f).1 f).1.want = (takeF c f).1.want := by
  by_cases h1 : f.f0 ≠ c.conn
  · have : takeF c f = (c, [], 130) := by unfold takeF; rw [if_pos h1]
    rw [this]
    exact ⟨by rw [this], by rw [this], by rw [this]⟩
  by_cases h2 : BadForm f
  · have : takeF c f = (c, [], 120) := by unfold takeF; rw [if_neg h1, if_pos h2]
    rw [this]
    exact ⟨by rw [this], by rw [this], by rw [this]⟩
  by_cases h3 : f.f1 = 0
  · have key : ∀ c : Ch, f.f0 = c.conn → takeF c f = ({ c with q := ackedF f.f2 c.q }, [], 0) := fun c hc => by unfold takeF; rw [if_neg (by simpa using hc), if_neg h2, if_pos h3]
    have hc : f.f0 = c.conn := by simpa using h1
    rw [key c hc, key _ (by exact hc)]
    exact ⟨rfl, rfl, rfl⟩
  by_cases h4 : f.f1 < c.want ∨ c.want + 4 ≤ f.f1
  · have key : ∀ c : Ch, f.f0 = c.conn → (f.f1 < c.want ∨ c.want + 4 ≤ f.f1) → takeF c f = ({ c with q := ackedF f.f2 c.q, owes := true }, [], 0) := fun c hc hh => by unfold takeF; rw [if_neg (by simpa using hc), if_neg h2, if_neg h3, if_pos hh]
    have hc : f.f0 = c.conn := by simpa using h1
    rw [key c hc h4, key _ (by exact hc) (by exact h4)]
    exact ⟨rfl, rfl, rfl⟩
  have hc : f.f0 = c.conn := by simpa using h1
  have hw : c.want ≤ f.f1 ∧ f.f1 < c.want + 4 := by omega
  have nd := elF_nd (f := f) h.nd
  have lo : ∀ p ∈ elF c f, c.want ≤ p.1 := fun p hp => by
    rcases elF_mem hp with hp | rfl
    · have := h.el p hp; omega
    · exact hw.1
  obtain ⟨d1, d2, d3, d4, d5⟩ := drain_spec (elF c f).length (elF c f) c.want (Nat.le_refl _) nd lo
  have e1 : takeF c f = ({ c with q := ackedF f.f2 c.q, owes := true, el := (drain (elF c f).length (elF c f) c.want).2.1, want := (drain (elF c f).length (elF c f) c.want).2.2 }, (drain (elF c f).length (elF c f) c.want).1, 0) := by unfold takeF; rw [if_neg h1, if_neg h2, if_neg h3, if_neg h4]
  generalize hD : drain (elF c f).length (elF c f) c.want = D at *
  obtain ⟨outs, el', w'⟩ := D
  simp only at d1 d2 d3 d4 d5 e1
  rw [e1]
  simp only
  by_cases h5 : f.f1 < w'
  · have : takeF ({ c with q := ackedF f.f2 c.q, owes := true, el := el', want := w' } : Ch) f = ({ c with q := ackedF f.f2 (ackedF f.f2 c.q), owes := true, el := el', want := w' }, [], 0) := by unfold takeF; rw [if_neg (by exact h1), if_neg h2, if_neg h3, if_pos (by exact .inl h5)]
    rw [this]
    exact ⟨rfl, rfl, rfl⟩
  · have hin : ∃ bs, (f.f1, bs) ∈ elF c f := by
      unfold elF
      split
      · next bs hf => exact ⟨bs, find_mem hf⟩
      · exact ⟨f.f3, by simp⟩
    obtain ⟨bs, hbs⟩ := hin
    have hbs2 : (f.f1, bs) ∈ el' := by
      rw [d2, List.mem_filter]
      refine ⟨hbs, by simp; omega⟩
    have nd' : (el'.map (·.1)).Nodup := by
      rw [d2]
      exact List.Nodup.sublist (List.Sublist.map _ List.filter_sublist) nd
    have hff := (find_iff nd').2 hbs2
    have e2 : elF ({ c with q := ackedF f.f2 c.q, owes := true, el := el', want := w' } : Ch) f = el' := by
      unfold elF
      simp only
      rw [hff]
    have : takeF ({ c with q := ackedF f.f2 c.q, owes := true, el := el', want := w' } : Ch) f = ({ c with q := ackedF f.f2 (ackedF f.f2 c.q), owes := true, el := el', want := w' }, [], 0) := by
      unfold takeF
      rw [if_neg (by exact h1), if_neg h2, if_neg h3, if_neg (by simp only; omega), e2]
      simp only
      rw [drain_none d3]
    rw [this]
    exact ⟨rfl, rfl, rfl⟩
end Go.Proofs.Ytommobflhnphnaa.C
