/- Two ends beside each other; frames that are read. Conditions: none. -/
import Derived.Test.YtommobflhnphnaaCZ
namespace Go.Proofs.Ytommobflhnphnaa.C
open Go.RowKit Go.Proofs.Ytommobflhnphnaa.P Go.Proofs.YtommobflhnphnaaBase Go.Proofs.YtommobflhnphnaaW.PrintWords Go.Proofs.YtommobflhnphnaaW.PrintLast Go.Maps Go.Lib
set_option linter.unusedVariables false
set_option linter.unusedSimpArgs false

theorem ChanAt.other {n0 n1 : Nat} {W W' : World} {b m b2 m2 : Nat} {c c2 : Ch} (h2 : ChanAt n1 W b2 m2 c2) (h1 : ChanAt n0 W b m c) (ho : Ons (two b m) W W') (hne : ¬ two b m b2 ∧ ¬ two b m m2) : ChanAt n1 W' b2 m2 c2 :=
  h2.keep (ho.blk b2 h2.ltb hne.1) (ho.blk m2 h2.e.lt hne.2) (h1.two_kept ho 5 (by decide)) (h1.two_kept ho 84 (by decide))
theorem R25_kept {W W' : World} {base : Nat} {ok : Nat → Prop} {v : Value} {xs : List S25} (h : Kd.R k25 25 W base ok v xs) (h25 : Kept 25 W W') (h5 : Kept 5 W W') : Kd.R k25 25 W' base ok v xs :=
  Kd.R_mono (Kd.R_move (Kd.R_bound h) (fun k hk' => by
    obtain ⟨_, _, _, q, hq, cells, hc⟩ := hk'
    have hq2 : q = 25 ∨ q = 5 := by simpa [k25, Kd.iso, Kd.pair, Kd.int, Kd.scalar, Kd.slice] using hq
    rcases hq2 with rfl | rfl
    · rw [h25 k cells hc, hc]
    · rw [h5 k cells hc, hc])) (fun _ h => h.1)
theorem frame_reads {W : World} {base n c : Nat} {ok : Nat → Prop} {A : Option Addr} {xs : List S25} (hR : Kd.R k25 25 W base ok (.slice A n c) xs) (i : Nat) (hi : i < xs.length) : ∃ ad A3 c3, A = some ad ∧ n = xs.length ∧ W.cell? (ad.add (i * 4)) = some (.int .i64 (rd_T25 xs i).f0) ∧ W.cell? ⟨(ad.add (i * 4)).block, (ad.add (i * 4)).off + 1, none⟩ = some (.int .i64 (rd_T25 xs i).f1) ∧ W.cell? ⟨(ad.add (i * 4)).block, (ad.add (i * 4)).off + 2, none⟩ = some (.int .i64 (rd_T25 xs i).f2) ∧ W.cell? ⟨(ad.add (i * 4)).block, (ad.add (i * 4)).off + 3, none⟩ = some (.slice A3 (rd_T25 xs i).f3.length c3) ∧ (rd_T25 xs i).f3.length ≤ c3 ∧ ∀ W', Kept 25 W W' → Kept 5 W W' → Kd.C (Kd.int .u8) W' A3 (rd_T25 xs i).f3.length (rd_T25 xs i).f3 := by
  obtain ⟨A', c', e, hl, hC⟩ := Kd.R_reads hR
  injection e with e1 e2 e3
  subst e1
  subst e2
  obtain ⟨ad, A3, c3, rfl, h0, h1, h2, h3, h4, h5⟩ := at_T25 hC (i : Int) (by omega) (by omega)
  simp only [Int.toNat_natCast] at h0 h1 h2 h3
  refine ⟨ad, A3, c3, rfl, rfl, h0, h1, h2, h3, h4, fun W' k25' k5 => ?_⟩
  obtain ⟨inner, ho⟩ := Kd.R_own hR
  have hblk : ∃ g, ad = ⟨g, 0, none⟩ := by
    rcases ho.2 with ⟨e, _⟩ | ⟨g, cap, cur, e, _⟩
    · cases e
    · injection e with e _ _
      injection e with e
      exact ⟨g, e⟩
  obtain ⟨g, rfl⟩ := hblk
  obtain ⟨cells, hc⟩ := own_typed ho g rfl
  obtain ⟨A', c', e, hl', hC'⟩ := Kd.R_reads (R25_kept hR k25' k5)
  injection e with e1 e2 e3
  subst e1
  obtain ⟨ad', A3', c3', e', _, _, _, h3', _, h5'⟩ := at_T25 hC' (i : Int) (by omega) (by omega)
  injection e' with e'
  subst e'
  simp only [Int.toNat_natCast] at h3'
  have hs : ((⟨g, 0, none⟩ : Addr).add (i * 4)).block = g := by
    unfold Addr.add
    split <;> rfl
  rw [World.cell?_of_block (w := W) (by simp only [hs]; rw [k25' g cells hc, hc]), h3] at h3'
  injection h3' with h3'
  injection h3' with h6 h7 h8
  rw [h6]
  exact h5'
end Go.Proofs.Ytommobflhnphnaa.C
