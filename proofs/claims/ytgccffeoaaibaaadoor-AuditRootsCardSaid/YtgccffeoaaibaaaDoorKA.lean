/- Entries whose headers were copied stay while a log is written; Clone. Conditions: up to a thousand entries. -/
import Derived.Test.YtgccffeoaaibaaaDoorIX
import Derived.Deep.DeepCutAuto
import Derived.Deep.CutBlock
import Derived.Deep.CutRange
namespace Go.Proofs.YtgccffeoaaibaaaDoor.A
open Go.RowKit Go.Proofs.YtgccffeoaaibaaaDoor.PAuditNobody Go.Proofs.YtgccffeoaaibaaaDoorBase Go.Proofs.YtgccffeoaaibaaaDoorW.PrintWords Go.Proofs.YtgccffeoaaibaaaDoorW.PrintLast Go.Proofs.YtgccffeoaaibaaaDoorW.PrintMore Go.Maps Go.Lib
set_option linter.unusedVariables false
set_option linter.unusedSimpArgs false
theorem Held.of_F {base : Nat} {ok okF : Nat → Prop} {W : World} {G : Option Addr} {n : Nat} {es : List Sm} (h : Kd.F ks W okF G n es) (hsep : ∀ k, okF k → ¬ ok k) (hG : ∀ ad, G = some ad → 0 < n → okF ad.block) : Held base ok W G n es := by
  have hC := Kd.F_now h
  refine ⟨hC.1, ?_⟩
  have key : ∀ i, i < n → ∃ (B : Option Addr) (c : Nat), ∀ W', Grew base ok W W' → ∃ ad, G = some ad ∧ W'.cell? (ad.add i) = some (.slice B (xat es i).length c) ∧ (xat es i).length ≤ c ∧ kb.C W' B (xat es i).length (xat es i) := by
    intro i hi
    obtain ⟨ad, B, c, e, h1, h2, h3⟩ := ks_at hC hi
    refine ⟨B, c, fun W' hg => ?_⟩
    have hC' := Kd.F_now (Kd.F_kept h hg.kept hsep)
    obtain ⟨ad', B', c', e', h1', h2', h3'⟩ := ks_at hC' hi
    rw [e] at e'
    injection e' with e'
    subst e'
    have hlt : (ad.add i).block < W.heap.size := World.block_lt_of_cell? W _ h1
    have hbl : (ad.add i).block = ad.block := by unfold Addr.add; split <;> rfl
    have hsame : W'.heap[(ad.add i).block]? = W.heap[(ad.add i).block]? := hg.kept.2 _ hlt (by rw [hbl]; exact hsep _ (hG ad e (by omega)))
    have h4 : W'.cell? (ad.add i) = some (.slice B (xat es i).length c) := (World.cell?_of_block (w := W) hsame).trans h1
    rw [h4] at h1'
    injection h1' with h5
    injection h5 with h5 _ h6
    subst h5 h6
    exact ⟨ad, e, h4, h2, h3'⟩
  classical
  refine ⟨fun i => if hi : i < n then (key i hi).choose else none, fun i => if hi : i < n then (key i hi).choose_spec.choose else 0, fun W' hg i hi => ?_⟩
  simp only [dif_pos hi]
  exact (key i hi).choose_spec.choose_spec W' hg
theorem heap_ks : Kd.Heap ks := Kd.heap_slice 5 Kd.heap_scalar
theorem R_mono1 {α : Type} {d : Kd α} {e : Nat} {w : World} {base : Nat} {v : Value} {l : List α} (h : Kd.R d e w base (fun _ => True) v l) : Kd.R d e w base (fun k => base ≤ k) v l := Kd.R_mono (Kd.R_bound h) (fun _ hk => hk.2.1)
set_option maxHeartbeats 8000000 in
/-- slices.Clone of entries: their headers -/
theorem clone23_c {W : World} {okp : Nat → Prop} {A : Option Addr} {c n : Nat} {l : List Sm} (hF : Kd.F ks W okp A n l) (hn : n ≤ 1000) : Calls Tryd.prog 23 #[.slice A n c] W fun e w' => (∃ G cG, e = .returned (.slice G n cG) ∧ Kd.F ks w' (fun k => okp k ∨ W.heap.size ≤ k ∧ k < w'.heap.size) G n l ∧ (∀ ad, G = some ad → 0 < n → W.heap.size ≤ ad.block ∧ ad.block < w'.heap.size)) ∧ Below W.heap.size W w' := by
  have q31 : ∀ (w : World) (a : Option Addr) (n c n' c' : Nat), (binOp .eql 22 (.slice a n c) (.slice none n' c')).run Tryd.prog w = .ok (.bool a.isNone) w := fun w a n c n' c' => Lib.run_eql_slice_nil w _ _ a n c n' c' Tryd.underlying22
  have hnl := Kd.F_len hF
  subst hnl
  cases A with
  | none =>
    have := none_nil (Kd.F_now hF)
    subst this
    go_enter Tryd.func23, Tryd.ntmps23
    go_wp2_with fail
    go_ret
    exact ⟨⟨_, _, rfl, Kd.F_nil _ _ _, fun ad _ h => absurd h (by decide)⟩, Below.refl _ _⟩
  | some ad =>
    have HF := Lib.hid hF
    clear hF
    go_enter Tryd.func23, Tryd.ntmps23
    go_wp2_with ((with_reducible refine gate_builtin (b := .append) (xs := #[.tmp 5, .tmp 6]) rfl ?_); at_builtin; refine Hid.out ?_)
    refine Lib.hid ?_
    have HNE : ∀ k, k < W.heap.size → some k ≠ (Value.slice (some ⟨W.heap.size, 0, none⟩) 0 0).ownBlock := fun k hk e => by
      have h1 : k = W.heap.size := by simpa [Value.ownBlock] using e
      omega
    have HFR : ∀ k, (W.alloc (.cells #[] 36)).heap.size ≤ k → W.heap.size ≤ k := fun k hk => Nat.le_trans (below_alloc (Below.refl W.heap.size W) (.cells #[] 36)).size hk
    refine Kd.N_append_rows ks (w0 := W) W.heap.size rfl (.tmp 5) (.tmp 6) 22 36 (.slice none 0 0) 24 rfl Tryd.underlying22 info36 rfl (by decide) (by decide) (.slice (some ⟨W.heap.size, 0, none⟩) 0 0) [] l (some ad) l.length c (fun k => okp k ∨ W.heap.size ≤ k) (fun k => okp k ∧ k < W.heap.size) rfl rfl ?aO (Kd.F_alloc (Kd.F_bound HF.out) (.cells #[] 36)) (fun k hk => ⟨Or.inl hk.1, fun e => HNE k hk.2 e⟩) (fun k hk => Or.inr (HFR k hk)) ?aB ?aS ?aL ?_
    case aO => exact Kd.N_mono (Kd.R_N (R_mono1 (R_empty ks 36 W))) (fun k hk => Or.inr hk)
    case aB => exact below_alloc (Below.refl _ _) _
    case aS => simp
    case aL => simp; omega
    intro v1 w1 hN hB hG hat
    rw [List.nil_append] at hN
    obtain ⟨G, cG, rfl⟩ := Kd.N_slice hN
    have HFF := Kd.F_bound (Kd.N_F hN)
    have HLT := Kd.N_lt hN
    have HBS := Kd.N_base hN
    go_wp2_with fail
    go_ret
    refine ⟨⟨_, _, rfl, Kd.F_mono HFF (fun k hk => hk.1.elim Or.inl (fun h => Or.inr ⟨h, hk.2⟩)), fun ad2 e hp => ?_⟩, hB⟩
    subst e
    obtain ⟨g, cap, e, h1, h2, _⟩ := Kd.N_form hN hp
    injection e with e
    injection e with e
    subst e
    exact ⟨h1, h2⟩
end Go.Proofs.YtgccffeoaaibaaaDoor.A
