/- Both ends side by side in memory, while each is called and bytes are turned. Conditions: none. -/
import Derived.Test.YtommobflhnphnaaFI
namespace Go.Proofs.Ytommobflhnphnaa.C
open Go.RowKit Go.Proofs.Ytommobflhnphnaa.P Go.Proofs.YtommobflhnphnaaBase Go.Proofs.YtommobflhnphnaaW.PrintWords Go.Proofs.YtommobflhnphnaaW.PrintLast Go.Proofs.YtommobflhnphnaaW.PrintMore Go.Maps Go.Lib
set_option linter.unusedVariables false
set_option linter.unusedSimpArgs false

/-- the channel's end and the reference's -/
structure PS2 [lim : Lim] (w W : World) (b m rb : Nat) (c1 c2 : Ch) : Prop where
  ch : ChanAt w.heap.size W b m c1
  en : EndAt w.heap.size W rb c2
  B : Below w.heap.size w W
theorem ChanAt.map_blk [lim : Lim] {n0 : Nat} {W : World} {b m : Nat} {c : Ch} (h : ChanAt n0 W b m c) : ∃ es clock, W.heap[m]? = some (.map es clock) := by
  obtain ⟨D, h1, _⟩ := h.e.own
  obtain ⟨es, clock, h2, _⟩ := h1
  exact ⟨es, clock, h2⟩
theorem PS2.ne [lim : Lim] {w W : World} {b m rb : Nat} {c1 c2 : Ch} (h : PS2 w W b m rb c1 c2) : b ≠ rb ∧ m ≠ rb := by
  obtain ⟨A, cap, h1, _⟩ := h.ch.d
  obtain ⟨A2, cap2, A3, cap3, off, h2, _⟩ := h.en.d
  obtain ⟨es, clock, h3⟩ := h.ch.map_blk
  refine ⟨fun e => ?_, fun e => ?_⟩
  · rw [e, h2] at h1
    simp at h1
  · rw [e, h2] at h3
    simp at h3
theorem PS2.below [lim : Lim] {w W W' : World} {b m rb : Nat} {c1 c2 : Ch} (h : PS2 w W b m rb c1 c2) (hb : Below W.heap.size W W') : PS2 w W' b m rb c1 c2 := ⟨h.ch.below hb, h.en.below hb, h.B.trans (hb.mono h.B.size)⟩
theorem PS2.left [lim : Lim] {w W W' : World} {b m rb : Nat} {c1 c1' c2 : Ch} (h : PS2 w W b m rb c1 c2) (ho : Ons (two b m) W W') (hc : ChanAt w.heap.size W' b m c1') : PS2 w W' b m rb c1' c2 :=
  ⟨hc, h.en.keep (ho.blk rb h.en.lt (fun e => e.elim (fun e => h.ne.1 e.symm) (fun e => h.ne.2 e.symm))) (h.ch.two_kept ho 90 (by decide)), onb h.B ho h.ch.hb h.ch.hm⟩
theorem EndAt.one_kept {n0 : Nat} {W W' : World} {rb : Nat} {c : Ch} (h : EndAt n0 W rb c) (ho : Ons (one rb) W W') (t : TypeId) (ht : t ≠ 57) : Kept t W W' := ho.kept (fun k hk cs hc => by
  have hk' : k = rb := hk
  subst hk'
  obtain ⟨A2, cap2, A3, cap3, off, h2, _⟩ := h.d
  rw [h2] at hc
  injection hc with hc
  injection hc with _ hc
  exact ht hc.symm)
theorem PS2.right [lim : Lim] {w W W' : World} {b m rb : Nat} {c1 c2 c2' : Ch} (h : PS2 w W b m rb c1 c2) (ho : Ons (one rb) W W') (he : EndAt w.heap.size W' rb c2') : PS2 w W' b m rb c1 c2' :=
  ⟨h.ch.keep (ho.blk b h.ch.ltb (fun e => h.ne.1 e)) (ho.blk m h.ch.e.lt (fun e => h.ne.2 e)) (h.en.one_kept ho 5 (by decide)) (h.en.one_kept ho 84 (by decide)), he, h.B.trans (ho.bel _ (by rintro k rfl; exact h.en.hb) h.B.size)⟩
theorem PS2.weak {L1 L2 : Lim} {w W : World} {b m rb : Nat} {c1 c2 : Ch} (h : PS2 (lim := L1) w W b m rb c1 c2) (hw : ∀ k, k < W.heap.size → L1.ok k → L2.ok k) : PS2 (lim := L2) w W b m rb c1 c2 := @PS2.mk L2 _ _ _ _ _ _ _ (ChanAt.weak (L1 := L1) (L2 := L2) (@PS2.ch L1 _ _ _ _ _ _ _ h) hw) (@PS2.en L1 _ _ _ _ _ _ _ h) (@PS2.B L1 _ _ _ _ _ _ _ h)
/-- only these blocks of bytes have changed, and bytes they are still -/
structure Xo (n0 : Nat) (S : Nat → Prop) (W W' : World) : Prop where
  kept : ∀ k, ¬ S k → W'.heap[k]? = W.heap[k]?
  bel : Below n0 W W'
  shp : ∀ k, S k → ∃ cells, W'.heap[k]? = some (.cells cells 5 (0, 0))
  cel : ∀ k i x, S k → W.cell? ⟨k, i, none⟩ = some (.int .u8 x) → ∃ y, W'.cell? ⟨k, i, none⟩ = some (.int .u8 y)
theorem Xo.refl {n0 : Nat} {S : Nat → Prop} {W : World} (h : ∀ k, S k → ∃ cells, W.heap[k]? = some (.cells cells 5 (0, 0))) : Xo n0 S W W := ⟨fun _ _ => rfl, Below.refl _ _, h, fun _ _ x _ h => ⟨x, h⟩⟩
theorem Xo.put {n0 : Nat} {S : Nat → Prop} {W W' : World} (h : Xo n0 S W W') {g i : Nat} {y : Int} (hg : S g) (hn : n0 ≤ g) : Xo n0 S W (W'.setCell ⟨g, i, none⟩ (.int .u8 y)) := by
  have hf : ∀ k, k ≠ g → (W'.setCell ⟨g, i, none⟩ (.int .u8 y)).heap[k]? = W'.heap[k]? := fun k hk => Below.heap_setCell W' ⟨g, i, none⟩ _ k hk
  refine ⟨fun k hk => ?_, h.bel.setCell hn _, fun k hk => ?_, fun k j x hk hx => ?_⟩
  · rw [hf k (fun e => hk (e ▸ hg))]
    exact h.kept k hk
  · by_cases e : k = g
    · subst e
      obtain ⟨cs, hc⟩ := h.shp k hk
      exact ⟨_, set_blk hc _⟩
    · rw [hf k e]
      exact h.shp k hk
  · obtain ⟨z, hz⟩ := h.cel k j x hk hx
    by_cases e : (⟨g, i, none⟩ : Addr) = ⟨k, j, none⟩
    · rw [← e] at hz ⊢
      exact ⟨y, World.cell?_setCell_same _ _ _ hz⟩
    · exact ⟨z, (World.cell?_setCell_other _ _ _ _ e).trans hz⟩
theorem PS2.turned [lim : Lim] {w W W' : World} {b m rb : Nat} {c1 c2 : Ch} {S : Nat → Prop} (h : PS2 w W b m rb c1 c2) (hx : Xo w.heap.size S W W') (hs : ∀ k, S k → ¬ Lim.ok k ∧ ∃ cells, W.heap[k]? = some (.cells cells 5 (0, 0))) : PS2 w W' b m rb c1 c2 := by
  obtain ⟨A, cap, h1, _⟩ := h.ch.d
  obtain ⟨A2, cap2, A3, cap3, off, h2, _⟩ := h.en.d
  obtain ⟨es, clock, h3⟩ := h.ch.map_blk
  have far : ∀ k o, W.heap[k]? = some o → (∀ cells, o ≠ Obj.cells cells 5 (0, 0)) → W'.heap[k]? = W.heap[k]? := fun k o ho hn => hx.kept k (fun hk => by
    obtain ⟨_, cells, hc⟩ := hs k hk
    rw [ho] at hc
    exact hn cells (by simpa using hc))
  have hkt : ∀ t, t ≠ 5 → Kept t W W' := fun t ht g cs hg => (far g _ hg (fun cells e => by
    simp only [Obj.cells.injEq] at e
    exact ht e.2.1)).trans hg
  exact ⟨h.ch.keepL (far b _ h1 (fun cells e => by simp at e)) (far m _ h3 (fun cells e => by simp at e)) (fun g cs hok hg => (hx.kept g (fun hk => (hs g hk).1 hok)).trans hg) (hkt 84 (by decide)), h.en.keep (far rb _ h2 (fun cells e => by simp at e)) (hkt 90 (by decide)), h.B.trans hx.bel⟩
/-- the bytes of a row of one's own lie in a block of their own -/
theorem own_bytes {W : World} {base : Nat} {ok : Nat → Prop} {A : Option Addr} {n c : Nat} {bs : List Int} (h : Kd.R (Kd.int .u8) 5 W base ok (.slice A n c) bs) (hn : bs.length = n) (h0 : 0 < n) :
    ∃ g, A = some ⟨g, 0, none⟩ ∧ base ≤ g ∧ g < W.heap.size ∧ (∃ cells, W.heap[g]? = some (.cells cells 5 (0, 0))) ∧ ∀ i, i < n → ∃ x, W.cell? ⟨g, i, none⟩ = some (.int .u8 x) := by
  obtain ⟨hl, hnc, hC⟩ := Kd.R_reads' h
  obtain ⟨inner, ho⟩ := Kd.R_own h
  obtain ⟨g, hA⟩ : ∃ g, A = some ⟨g, 0, none⟩ := by
    rcases ho.2 with ⟨hv, _⟩ | ⟨g, cap', cur, hv, _⟩
    · injection hv with _ hv _
      omega
    · injection hv with ha _ _
      exact ⟨g, ha⟩
  subst hA
  refine ⟨g, rfl, own_base ho g (by simp [Value.ownBlock]), own_lt ho g (by simp [Value.ownBlock]), own_typed ho g (by simp [Value.ownBlock]), fun i hi => ?_⟩
  obtain ⟨_, _, h3⟩ := hC
  obtain ⟨ad, e, hc⟩ := h3 (by omega)
  injection e with e
  subst e
  obtain ⟨x, hx⟩ : ∃ x, bs[i]? = some x := ⟨_, List.getElem?_eq_getElem (by omega)⟩
  obtain ⟨cs, _, hK, hcell⟩ := hc i x hx
  have hK' : cs = [.int .u8 x] := hK
  subst hK'
  have := hcell 0 _ rfl
  rw [show i * (Kd.int .u8).sz + 0 = i from by show i * 1 + 0 = i; omega, addr_add, Nat.zero_add] at this
  exact ⟨x, this⟩
/-- a frame of a row of one's own: where its body's header lies, and its bytes -/
theorem frame_own {W : World} {base n c : Nat} {A : Option Addr} {xs : List S25} (hR : Kd.R k25 25 W base (fun _ => True) (.slice A n c) xs) {i : Nat} (hi : i < n) : ∃ H B le cb, A = some ⟨H, 0, none⟩ ∧ (∃ cells, W.heap[H]? = some (.cells cells 25 (0, 0))) ∧ W.cell? ⟨H, i * 4 + 3, none⟩ = some (.slice B le cb) ∧ (∃ f ∈ xs, f.f3.length = le) ∧ ∀ q, q < le → ∃ g x, B = some ⟨g, 0, none⟩ ∧ base ≤ g ∧ g < W.heap.size ∧ (∃ cells, W.heap[g]? = some (.cells cells 5 (0, 0))) ∧ W.cell? ⟨g, q, none⟩ = some (.int .u8 x) := by
  obtain ⟨hl, hnc, hC⟩ := Kd.R_reads' hR
  obtain ⟨inner, ho⟩ := Kd.R_own hR
  obtain ⟨H, hA⟩ : ∃ H, A = some ⟨H, 0, none⟩ := by
    rcases ho.2 with ⟨hv, _⟩ | ⟨g, cap', cur, hv, _⟩
    · injection hv with _ hv _
      omega
    · injection hv with ha _ _
      exact ⟨g, ha⟩
  subst hA
  have hT := own_typed ho H (by simp [Value.ownBlock])
  obtain ⟨cs, hcl, hM, hcc, _⟩ := Kd.R_elem hR z25 (i : Int) (by omega) (by omega)
  rw [Int.toNat_natCast] at hM hcc
  obtain ⟨v3, e, hv3⟩ := k25_openM hM
  have hcell := hcc 3 v3 (by rw [e]; rfl)
  have hs : k25.sz = 4 := rfl
  rw [hs] at hcell
  obtain ⟨B, cb, rfl, hle, hB⟩ := Kd.R_reads hv3
  have hmem : xs.getD i z25 ∈ xs := by
    rw [List.getD_eq_getElem?_getD, List.getElem?_eq_getElem (by omega)]
    exact List.getElem_mem _
  refine ⟨H, B, _, cb, rfl, hT, hcell, ⟨_, hmem, rfl⟩, fun q hq => ?_⟩
  obtain ⟨g, hg, h1, h2, h3, h4⟩ := own_bytes hv3 rfl (by omega)
  obtain ⟨x, hx⟩ := h4 q hq
  exact ⟨g, x, hg, h1, h2, h3, hx⟩
/-- what the bodies of a queue are made of -/
theorem byq_send {c : Ch} {bs : List Int} (h : ∀ p ∈ c.q, ByteL p.body) (hb : ByteL bs) : ∀ p ∈ (sendF c bs).1.q, ByteL p.body := by
  unfold sendF
  repeat' split
  all_goals first
    | exact h
    | (intro p hp
       simp only [List.mem_append, List.mem_singleton] at hp
       rcases hp with hp | rfl
       · exact h p hp
       · exact hb)
theorem byq_acked {q : List Pa} (ack : Int) (h : ∀ p ∈ q, ByteL p.body) : ∀ p ∈ ackedF ack q, ByteL p.body := by
  obtain ⟨n, e, _⟩ := acked_drop ack q
  rw [e]
  exact fun p hp => h p (List.mem_of_mem_drop hp)
theorem byq_take {c : Ch} {f : S25} (h : ∀ p ∈ c.q, ByteL p.body) : ∀ p ∈ (takeF c f).1.q, ByteL p.body := by
  unfold takeF
  repeat' split
  all_goals first
    | exact h
    | exact byq_acked _ h
theorem byq_tick {c : Ch} (h : ∀ p ∈ c.q, ByteL p.body) : ∀ p ∈ c.q.map tickP, ByteL p.body := by
  intro p hp
  obtain ⟨x, hx, rfl⟩ := List.mem_map.1 hp
  have : (tickP x).body = x.body := by unfold tickP; repeat' (first | rfl | split)
  rw [this]
  exact h x hx
theorem byq_out {c : Ch} (h : ∀ p ∈ c.q, ByteL p.body) : ∀ p ∈ (outC c).q, ByteL p.body := by
  intro p hp
  obtain ⟨j, hj, e⟩ := List.getElem_of_mem hp
  have hg := mapK_get outP c.q (min c.q.length 4) j
  have ht : (mapK outP c.q (min c.q.length 4))[j]? = some p := by
    have := List.getElem?_eq_getElem hj
    rw [e] at this
    exact this
  rw [hg] at ht
  split at ht
  · cases hx : c.q[j]? with
    | none => rw [hx] at ht; cases ht
    | some x =>
      rw [hx] at ht
      simp only [Option.map_some, Option.some.injEq] at ht
      subst ht
      have : (outP x).body = x.body := by unfold outP; split <;> rfl
      rw [this]
      exact h x (List.mem_of_getElem? hx)
  · exact h p (List.mem_of_getElem? ht)
end Go.Proofs.Ytommobflhnphnaa.C
