/- The law AuditEntries, walked. Conditions: the table of orders lies in memory. -/
import Derived.Test.YtgccffeoaaibaaaDoorKM
import Derived.Test.YtgccffeoaaibaaaDoorKJ
import Derived.Test.YtgccffeoaaibaaaDoorIX
import Derived.Test.YtgccffeoaaibaaaDoorJG
import Derived.Deep.DeepCutAuto
import Derived.Deep.CutBlock
import Derived.Deep.CutRange
namespace Go.Proofs.YtgccffeoaaibaaaDoor.A
open Go.RowKit Go.Proofs.YtgccffeoaaibaaaDoor.PAuditNobody Go.Proofs.YtgccffeoaaibaaaDoorBase Go.Proofs.YtgccffeoaaibaaaDoorW.PrintWords Go.Proofs.YtgccffeoaaibaaaDoorW.PrintLast Go.Proofs.YtgccffeoaaibaaaDoorW.PrintMore Go.Maps Go.Lib
set_option linter.unusedVariables false
set_option linter.unusedSimpArgs false
theorem bi_bits_xor (x y : B8) : Go.bits .xor .u8 (bi x) (bi y) = bi (x ^^^ y) := by
  have hw : ∀ z : B8, IntKind.u8.wrap (bi z) = bi z := fun z => by
    have h : IntKind.u8.wrap (bi z) = bi z % 256 := by simp [IntKind.wrap, IntKind.signed, IntKind.bits]
    rw [h]
    have := z.isLt
    unfold bi
    omega
  have ho : ∀ z : B8, BitVec.ofInt 8 (bi z) = z := fun z => by
    apply BitVec.eq_of_toNat_eq
    unfold bi
    simp
  unfold Go.bits
  simp only [IntKind.bits]
  rw [ho, ho]
  exact hw _
/-- an entry of a row of entries of one's own: its header, its bytes -/
theorem hdr_get {W : World} {base : Nat} {ok : Nat → Prop} {A : Option Addr} {n c : Nat} {gs : List Sm} (h : Kd.R ks 36 W base ok (.slice A n c) gs) {k : Nat} (hk : k < n) :
    ∃ H B cb, A = some ⟨H, 0, none⟩ ∧ (∃ cells, W.heap[H]? = some (.cells cells 36 (0, 0))) ∧ W.cell? ⟨H, k, none⟩ = some (.slice B (xat gs k).length cb) ∧ kb.C W B (xat gs k).length (xat gs k) ∧
      (0 < (xat gs k).length → ∃ g, B = some ⟨g, 0, none⟩ ∧ base ≤ g ∧ g < W.heap.size ∧ ∃ cells, W.heap[g]? = some (.cells cells 5 (0, 0))) := by
  obtain ⟨hn, hnc, hC⟩ := Kd.R_reads' h
  obtain ⟨H, hA⟩ : ∃ H, A = some ⟨H, 0, none⟩ := by
    obtain ⟨_, inner, ho, _⟩ := h
    rcases ho.2 with ⟨hv, _⟩ | ⟨g, cap', cur, hv, _⟩
    · injection hv with _ hv _
      omega
    · injection hv with ha _ _
      exact ⟨g, ha⟩
  subst hA
  have hT := own_typed (Kd.R_own h).choose_spec H (by simp [Value.ownBlock])
  obtain ⟨cs, hcl, hM, hcc, _⟩ := Kd.R_elem h [] (k : Int) (by omega) (by omega)
  rw [Int.toNat_natCast] at hM hcc
  obtain ⟨v, rfl, hR⟩ := hM
  have hR' : Kd.R kb 5 W base (fun k => ok k ∧ k ≠ H) v (xat gs k) := hR
  obtain ⟨B, cb, rfl, hle, hB⟩ := Kd.R_reads hR'
  refine ⟨H, B, cb, rfl, hT, ?_, hB, fun hp => ?_⟩
  · have := hcc 0 _ rfl
    rwa [show k * ks.sz + 0 = k from by show k * 1 + 0 = k; omega] at this
  · obtain ⟨inner, ho⟩ := Kd.R_own hR'
    rcases ho.2 with ⟨hv, _⟩ | ⟨g, cap', cur, hv, _⟩
    · injection hv with _ hv _
      omega
    · injection hv with hv _ _
      subst hv
      exact ⟨g, rfl, own_base ho g (by simp [Value.ownBlock]), own_lt ho g (by simp [Value.ownBlock]), own_typed ho g (by simp [Value.ownBlock])⟩
/-- bytes that the call made, elder than the log -/
def XS (n0 n1 : Nat) (w3 : World) (b : Nat) : Prop := n0 ≤ b ∧ b < n1 ∧ ∃ cells, w3.heap[b]? = some (.cells cells 5 (0, 0))
/-- only such bytes have changed, and bytes they are still -/
structure Xo (n0 n1 : Nat) (w3 w : World) : Prop where
  kept : ∀ b, ¬ XS n0 n1 w3 b → w.heap[b]? = w3.heap[b]?
  bel : Below n0 w3 w
  shp : ∀ b, XS n0 n1 w3 b → ∃ cells, w.heap[b]? = some (.cells cells 5 (0, 0))
  cel : ∀ b k x, XS n0 n1 w3 b → w3.cell? ⟨b, k, none⟩ = some (bv x) → ∃ y, w.cell? ⟨b, k, none⟩ = some (bv y)
theorem Xo.refl (n0 n1 : Nat) (w : World) : Xo n0 n1 w w := ⟨fun _ _ => rfl, Below.refl _ _, fun _ h => h.2.2, fun _ _ x _ h => ⟨x, h⟩⟩
theorem Xo.put {n0 n1 : Nat} {w3 w : World} (h : Xo n0 n1 w3 w) {b k : Nat} {y : B8} (hb : XS n0 n1 w3 b) : Xo n0 n1 w3 (w.setCell ⟨b, k, none⟩ (bv y)) := by
  have P := Put1.set b k w (bv y)
  refine ⟨fun b' hb' => ?_, h.bel.trans (P.bel n0 hb.1), fun b' hb' => ?_, fun b' k' x hb' hx => ?_⟩
  · rw [P.blk b' (fun e => hb' (e ▸ hb))]
    exact h.kept b' hb'
  · by_cases e : b' = b
    · subst e
      obtain ⟨cs, hc⟩ := h.shp b' hb'
      exact ⟨_, set_blk hc _⟩
    · rw [P.blk b' e]
      exact h.shp b' hb'
  · obtain ⟨z, hz⟩ := h.cel b' k' x hb' hx
    by_cases e : (⟨b, k, none⟩ : Addr) = ⟨b', k', none⟩
    · rw [← e] at hz ⊢
      exact ⟨y, World.cell?_setCell_same _ _ _ hz⟩
    · exact ⟨z, (World.cell?_setCell_other _ _ _ _ e).trans hz⟩
theorem LogC.kept {W W' : World} {base g : Nat} {ok : Nat → Prop} {dv lvv : Value} {L : List Sm} {lv : List (List Sm)} (h : LogC W base ok g dv lvv L lv) (hk : ∀ j, ok j → W'.heap[j]? = W.heap[j]?) : LogC W' base ok g dv lvv L lv :=
  ⟨(hk g h.own).trans h.blk, Kd.R_move h.dat hk, Kd.S_move h.lev hk, h.own, h.ge⟩
theorem take_snoc {L : List Sm} {j : Nat} (h : j < L.length) : L.take j ++ [xat L j] = L.take (j + 1) := by
  rw [List.take_add_one, List.getElem?_eq_getElem h]
  unfold xat
  rw [List.getD_eq_getElem?_getD, List.getElem?_eq_getElem h]
  rfl
theorem entries_row {W u1 w3 : World} {A5 : Option Addr} {j c5 : Nat} {L : List Sm} (h : Kd.R ks 36 u1 W.heap.size (fun k => W.heap.size ≤ k) (.slice A5 j c5) L) (hb : Below u1.heap.size u1 w3) {k : Nat} (hk : k < j) :
    ∃ H B cb, A5 = some ⟨H, 0, none⟩ ∧ ¬ XS W.heap.size u1.heap.size w3 H ∧ w3.cell? ⟨H, k, none⟩ = some (.slice B (xat L k).length cb) ∧ ∀ q, q < (xat L k).length → ∃ g x, B = some ⟨g, 0, none⟩ ∧ XS W.heap.size u1.heap.size w3 g ∧ w3.cell? ⟨g, q, none⟩ = some (bv x) := by
  obtain ⟨H, B, cb, hA, ⟨cs, hcs⟩, hcell, hB, hg⟩ := hdr_get h hk
  refine ⟨H, B, cb, hA, fun hx => ?_, keep_cell hb hcell, fun q hq => ?_⟩
  · obtain ⟨cs', hcs'⟩ := hx.2.2
    have := keep_blk hb hcs
    rw [this] at hcs'
    injection hcs' with hcs'
    injection hcs' with _ ht
    exact absurd ht (by decide)
  · obtain ⟨g, hBg, h1, h2, cs', hcs'⟩ := hg (by omega)
    obtain ⟨ad, e, hc⟩ := kb_at hB hq
    rw [hBg] at e
    injection e with e
    subst e
    have hadd : (⟨g, 0, none⟩ : Addr).add q = ⟨g, q, none⟩ := by unfold Addr.add; split <;> simp_all
    rw [hadd] at hc
    exact ⟨g, _, hBg, ⟨h1, h2, cs', keep_blk hb hcs'⟩, keep_cell hb hc⟩
set_option maxHeartbeats 16000000 in
set_option maxRecDepth 100000 in
theorem entries_law (W : World) (hO : OrdAt W) (A : Option Addr) (c : Nat) (L : List Sm) (hle : L.length ≤ c) (hC : ks.C W A L.length L) (g0 : L.length ≤ maxLen ∧ ∀ x ∈ L, x.length ≤ maxLen) (i : Int) (wi : (Lit.int .i64 i).wf = true) :
    Calls Tryd.prog 9 #[.slice A L.length c, .int .i64 i] W fun e w' => e = .returned (.bool true) ∧ Below W.heap.size W w' := by
  obtain ⟨m, hm⟩ : ∃ m, L.length = m := ⟨_, rfl⟩
  rw [hm] at hC hle ⊢
  have HO := Lib.hid hO
  have HC := Lib.hid hC
  have HLE := Lib.hid hle
  have HM := Lib.hid hm
  clear hO hC hle g0 wi hm
  go_enter Tryd.func9, Tryd.ntmps9
  go_wp2_with (first
    | (go_at_call 13; (with_reducible refine (short_c HC.out).mono ?_); rintro e w2 ⟨b, rfl, hb, hw⟩; rw [hw]; clear hw; have HB := Lib.hid hb; clear hb)
    | (go_at_call 14; (with_reducible refine (awake_c (HO.out.below (Below.refl _ _))).mono ?_); rintro e w9 ⟨rfl, hb9⟩))
  · go_ret
    exact ⟨rfl, hb9⟩
  · have hbt : b = true := by
      have h := ‹(!b) = false›
      simpa using h
    subst hbt
    rw [show (!true) = false from rfl]
    have hs := HB.out rfl
    have HS := Lib.hid hs
    have hm40 := Lib.hid (show m ≤ 40 by have := HM.out; have := hs.1; omega)
    have HSX : Hid (∀ j, j < m → (xat L j).length ≤ 4096) := Lib.hid (fun j hj => hs.2 j hj)
    have HSM : Hid (∀ d ∈ L, d.length ≤ 10000000) := Lib.hid (fun d hd => by
      obtain ⟨j, hj, rfl⟩ := List.getElem_of_mem hd
      have := hs.2 j (by have := HM.out; omega)
      unfold xat at this
      rw [List.getD_eq_getElem?_getD, List.getElem?_eq_getElem hj] at this
      exact Nat.le_trans this (by decide))
    clear hs HB HS
    go_loopw [5, 20] (fun v5 v20 w' => ∃ j : Nat, j ≤ m ∧ v20 = .int .i64 (j : Int) ∧ ∃ A5 c5, v5 = .slice A5 j c5 ∧ Hid (Kd.R ks 36 w' W.heap.size (fun k => W.heap.size ≤ k) (.slice A5 j c5) (L.take j) ∧ Below W.heap.size W w')) (fun _ v20 _ => m - (intOf v20).toNat)
    case atStart => exact ⟨0, Nat.zero_le _, rfl, none, 0, rfl, Lib.hid ⟨Kd.R_nil _ _ _ _ _, Below.refl _ _⟩⟩
    case round =>
      obtain ⟨j, hj, rfl, A5, c5, rfl, HP⟩ := hrel
      by_cases c1 : (j : Int) < (m : Int)
      · have hjm : j < m := by omega
        obtain ⟨ad, B, cb, hA, hcell, hcl, hKB⟩ := ks_at HC.out hjm
        subst hA
        obtain ⟨d, hd⟩ : ∃ d, xat L j = d := ⟨_, rfl⟩
        have HDL := Lib.hid (HSX.out j hjm)
        rw [hd] at hcell hcl hKB HDL
        have HTS : Hid (L.take j ++ [d] = L.take (j + 1)) := Lib.hid (by rw [← hd]; exact take_snoc (by rw [HM.out]; exact hjm))
        have hcell2 := keep_cell HP.out.2 hcell
        have CB := clone_c (W := wr) (Kd.C_below hKB HP.out.2) hcl (Nat.le_trans HDL.out (by decide))
        have HLJ : Hid ((L.take j).length = j) := Lib.hid (by rw [List.length_take, HM.out]; omega)
        have HJ := Lib.hid (show ((j : Int) + 1) = ((j + 1 : Nat) : Int) ∧ (j + 1 : Nat) < 1000000 by have := hm40.out; omega)
        have HJM := Lib.hid hjm
        clear hcell hKB hd hjm hj
        go_wp2_with (first
          | (go_at_call 29; (refine CB.mono ?_); rintro e w9 ⟨vn, rfl, hRb, hb9⟩; obtain ⟨An, cn, rfl⟩ := Kd.R_slice hRb)
          | ((with_reducible refine gate_builtin (b := .append) (xs := #[.tmp 24, .tmp 27]) rfl ?_); at_builtin; refine Hid.out ?_))
        refine Lib.hid ?_
        have hsz : W.heap.size ≤ wr.heap.size := HP.out.2.size
        have hMd : ks.M w9 W.heap.size (fun j => wr.heap.size ≤ j) d [.slice An d.length cn] := ⟨_, rfl, Kd.R_lower (Kd.R_mono (Kd.R_bound hRb) (fun j hj => hj.2.1)) hsz⟩
        refine Kd.R_append ks (w0 := W) W.heap.size rfl (.tmp 24) (.tmp 27) 22 36 (.slice none 0 0) 24 rfl Tryd.underlying22 info36 rfl (by decide) (by decide) (.slice A5 j c5) (L.take j) d [.slice An d.length cn] (fun k => W.heap.size ≤ k) (fun k => wr.heap.size ≤ k) rfl ?aX hMd ?aK ?aF (Kd.R_below HP.out.1 hb9) (below_step HP.out.2 hb9) (Nat.le_trans hsz hb9.size) ?aL ?_
        case aX => rfl
        case aK => exact fun q hq => ⟨Nat.le_trans hsz hq, fun he => Nat.lt_irrefl q (Nat.lt_of_lt_of_le (Kd.R_lt HP.out.1 q he.symm) hq)⟩
        case aF => exact fun q hq => Nat.le_trans hsz (Nat.le_trans hb9.size hq)
        case aL => rw [HLJ.out]; have := hm40.out; have := HJM.out; omega
        intro v1 w1 hR1 hB1 hg1 hat1
        rw [HTS.out] at hR1
        have hln : (L.take (j + 1)).length = j + 1 := by rw [List.length_take, HM.out]; have := HJM.out; omega
        obtain ⟨A1, c1', hv1⟩ := Kd.R_slice hR1
        rw [hln] at hv1
        subst hv1
        have HP1 := Lib.hid (And.intro hR1 hB1)
        clear hR1 hB1 hg1 hat1 hMd hRb hb9 hln CB HP
        go_wp2_with fail
        rw [wrap64_ok HJ.out]
        exact ⟨⟨j + 1, HJM.out, rfl, A1, c1', rfl, HP1⟩, by show m - (j + 1) < m - j; have := HJM.out; omega⟩
      · obtain rfl : j = m := by omega
        have HLT : Hid (L.take j = L) := Lib.hid (List.take_of_length_le (by rw [HM.out]; exact Nat.le_refl _))
        obtain ⟨u1, hu1⟩ : ∃ u1, u1 = wr := ⟨_, rfl⟩
        subst hu1
        have HR5 := Lib.hid (HLT.out ▸ HP.out.1 : Kd.R ks 36 u1 W.heap.size (fun k => W.heap.size ≤ k) (.slice A5 j c5) L)
        have HB5 := Lib.hid HP.out.2
        clear HP c1 hj
        have CM := Lib.hid (made_c (c := c5) (show ks.C u1 A5 j L from by
          have := (Kd.R_reads' HR5.out).2.2
          rw [HM.out] at this
          exact this) (HO.out.below HB5.out) (by have := hm40.out; omega) (fun q hq => Nat.le_trans (HSX.out q hq) (by decide)))
        go_wp2_with (first
          | (go_at_call 15; (with_reducible refine CM.out.mono ?_); rintro e w3 ⟨rfl, hb3, dv, lvv, lv, hL, hV⟩))
        have HR3 := Lib.hid (Kd.R_below HR5.out hb3)
        have HL3 := Lib.hid hL
        have HV := Lib.hid hV
        have HB3 := Lib.hid (below_step HB5.out hb3)
        have HSZ := Lib.hid (And.intro HB5.out.size hb3.size)
        have HRO : Hid (∀ k, k < j → ∃ H B cb, A5 = some ⟨H, 0, none⟩ ∧ ¬ XS W.heap.size u1.heap.size w3 H ∧ w3.cell? ⟨H, k, none⟩ = some (.slice B (xat L k).length cb) ∧ ∀ q, q < (xat L k).length → ∃ g x, B = some ⟨g, 0, none⟩ ∧ XS W.heap.size u1.heap.size w3 g ∧ w3.cell? ⟨g, q, none⟩ = some (bv x)) := Lib.hid (fun k hk => entries_row HR5.out hb3 hk)
        clear HR5 hb3 hL hV CM HR3
        go_loopw [34] (fun v34 w' => ∃ k : Nat, k ≤ j ∧ v34 = .int .i64 (k : Int) ∧ Hid (Xo W.heap.size u1.heap.size w3 w')) (fun v34 _ => j - (intOf v34).toNat)
        case atStart => exact ⟨0, Nat.zero_le _, rfl, Lib.hid (Xo.refl _ _ _)⟩
        case round =>
          obtain ⟨k, hk, rfl, HX⟩ := hrel
          by_cases c1 : (k : Int) < (j : Int)
          · have hkj : k < j := by omega
            obtain ⟨H, B, cb, hA5, hH, hcell, hby⟩ := HRO.out k hkj
            subst hA5
            have hcell2 := (World.cell?_of_block (w := w3) (HX.out.kept H hH)).trans hcell
            obtain ⟨le, hle⟩ : ∃ le, (xat L k).length = le := ⟨_, rfl⟩
            have HLEN := Lib.hid (HSX.out k (by omega))
            rw [hle] at hcell2 hby HLEN
            have HBY := Lib.hid hby
            have HK := Lib.hid (show ((k : Int) + 1) = ((k + 1 : Nat) : Int) ∧ (k + 1 : Nat) < 1000000 by have := hm40.out; omega)
            have HKJ := Lib.hid hkj
            clear hcell hby hH hle hk hkj
            obtain ⟨u2, hu2⟩ : ∃ u2, u2 = wr := ⟨_, rfl⟩
            subst hu2
            go_wp2_with fail
            go_loopw [40] (fun v40 w' => ∃ t : Nat, t ≤ le ∧ v40 = .int .i64 (t : Int) ∧ Hid (Xo W.heap.size u1.heap.size w3 w')) (fun v40 _ => le - (intOf v40).toNat)
            case atStart => exact ⟨0, Nat.zero_le _, rfl, HX⟩
            case round =>
              obtain ⟨t, ht, rfl, HX3⟩ := hrel
              by_cases c2 : (t : Int) < (le : Int)
              · have htl : t < le := by omega
                obtain ⟨g, x, hB, hg, hx⟩ := HBY.out t htl
                subst hB
                obtain ⟨y, hy⟩ := HX3.out.cel g t x hg hx
                obtain ⟨cells, hcells⟩ := HX3.out.shp g hg
                have hfr := free_blk hcells t
                have HT := Lib.hid (show ((t : Int) + 1) = ((t + 1 : Nat) : Int) ∧ (t + 1 : Nat) < 1000000 by have := HLEN.out; omega)
                have HP := Lib.hid (HX3.out.put (k := t) (y := y ^^^ 255#8) hg)
                have HTL := Lib.hid htl
                have hxor : Go.bits .xor .u8 (bi y) 255 = bi (y ^^^ 255#8) := bi_bits_xor y 255#8
                have hy' : wr.cell? ⟨g, t, none⟩ = some (.int .u8 (bi y)) := hy
                clear hcells hx hg ht htl hy HX3
                go_wp2_with fail
                rw [wrap64_ok HT.out]
                exact ⟨⟨t + 1, HTL.out, rfl, HP⟩, by show le - (t + 1) < le - t; have := HTL.out; omega⟩
              · obtain rfl : t = le := by omega
                clear ht c2
                go_wp2_with fail
                rw [wrap64_ok HK.out]
                exact ⟨⟨k + 1, HKJ.out, rfl, HX3⟩, by show j - (k + 1) < j - k; have := HKJ.out; omega⟩
          · obtain rfl : k = j := by omega
            clear hk c1
            have HLZ := Lib.hid (LogC.kept HL3.out (W' := wr) (fun q hq => HX.out.kept q (fun h => Nat.lt_irrefl q (Nat.lt_of_lt_of_le h.2.1 hq))))
            have HBZ := Lib.hid (HB3.out.trans HX.out.bel)
            obtain ⟨u3, hu3⟩ : ∃ u3, u3 = wr := ⟨_, rfl⟩
            subst hu3
            clear HL3 HX HB3 HRO HSZ
            obtain ⟨rl, hrl⟩ : ∃ rl, rootF L = rl := ⟨_, rfl⟩
            have HRLL : Hid (rl.length = 32) := Lib.hid (by rw [← hrl]; exact rootF_len _)
            have qe : ∀ w, (binOp .eql 33 (.agg (rl.map bv).toArray) (.agg (rl.map bv).toArray)).run Tryd.prog w = .ok (.bool true) w := fun w => by
              have := eq33 HRLL.out HRLL.out w
              rw [decide_eq_true rfl] at this
              exact this
            have C31 : Hid (∀ w, Below u3.heap.size u3 w → Calls Tryd.prog 31 #[.pointer (some ⟨u1.heap.size, 0, none⟩), .int .i64 (k : Int)] w fun e w' => e = .returned (.agg (rl.map bv).toArray) ∧ Below w.heap.size w w') := Lib.hid (fun w hb => by
              have := root31_c (n := k) (HLZ.out.keep hb) HV.out (by rw [HM.out]; have := hm40.out; omega) (HO.out.below (below_step HBZ.out hb)) (by rw [HM.out]; exact Nat.le_refl _)
              rw [HLT.out, hrl] at this
              exact this)
            have C26 : Hid (∀ w, Below u3.heap.size u3 w → Calls Tryd.prog 26 #[.pointer (some ⟨u1.heap.size, 0, none⟩)] w fun e w' => e = .returned (.int .i64 (k : Int)) ∧ w' = w) := Lib.hid (fun w hb => by
              have h := len_c (HLZ.out.keep hb)
              rw [HM.out] at h
              exact h)
            have C27 : Hid (∀ w, Below u3.heap.size u3 w → Calls Tryd.prog 27 #[.slice A k c] w fun e w' => e = .returned (.agg (rl.map bv).toArray) ∧ Below w.heap.size w w') := Lib.hid (fun w hb => by
              have := rdigest_c k (Kd.C_below HC.out (below_step HBZ.out hb)) HLE.out (by have := hm40.out; omega) HSM.out
              rw [hrl] at this
              exact this)
            clear hrl
            by_cases hi : 0 ≤ i ∧ i < (k : Int)
            · obtain ⟨p, rfl⟩ : ∃ p : Nat, i = (p : Int) := ⟨i.toNat, by omega⟩
              have hpk : p < k := by omega
              obtain ⟨ad, B, cb, hA, hcell, hcl, hKB⟩ := ks_at HC.out hpk
              subst hA
              have f1 : (0 : Int) ≤ (p : Int) := by omega
              have f2 : (p : Int) < (k : Int) := by omega
              have CA := at_c (i := p) HLZ.out (by rw [HM.out]; exact hpk) (Nat.le_trans (HSX.out p hpk) (by decide))
              obtain ⟨d, hd⟩ : ∃ d, xat L p = d := ⟨_, rfl⟩
              rw [hd] at hcell hcl hKB CA
              obtain ⟨ld, hld⟩ : ∃ ld, d.length = ld := ⟨_, rfl⟩
              rw [hld] at hcell hcl hKB
              have HLD := Lib.hid hld
              have HKB := Lib.hid hKB
              have HCE := Lib.hid hcell
              have HCA := Lib.hid CA
              clear hi hpk hd hld hKB hcell hcl CA
              go_wp2_with (first
                | (go_at_call 14; (with_reducible refine (awake_c (HO.out.below (below_step HBZ.out hT4))).mono ?_); rintro e w24 ⟨rfl, hb24⟩)
                | (go_at_call 27; (with_reducible refine (C27.out _ hT3).mono ?_); rintro e w23 ⟨rfl, hb23⟩; have hT4 := below_step hT3 hb23)
                | (go_at_call 31; (with_reducible refine (C31.out _ hT2).mono ?_); rintro e w22 ⟨rfl, hb22⟩; have hT3 := below_step hT2 hb22)
                | (go_at_call 26; (with_reducible refine (C26.out _ hT2).mono ?_); rintro e w25 ⟨rfl, hw25⟩; rw [hw25]; clear hw25)
                | (go_at_call 30; (with_reducible refine CE.out.mono ?_); rintro e w26 ⟨rfl, hw26⟩; rw [hw26]; clear hw26)
                | (go_at_call 28; (with_reducible refine HCA.out.mono ?_); rintro e w21 ⟨v4, rfl, hR4, hT2⟩; obtain ⟨A4, c4, hv4, hc4, hC4⟩ := Kd.R_reads hR4; rw [HLD.out] at hv4 hC4; subst hv4; have X4 := keep_cell (below_step HBZ.out hT2) HCE.out; have CE := Lib.hid (eqb_c (c := c4) (c' := cb) hC4 (Kd.C_below HKB.out (below_step HBZ.out hT2))); rw [decide_eq_true rfl] at CE; clear hR4 hC4))
              go_ret
              exact ⟨rfl, below_step (below_step HBZ.out hT4) hb24⟩
            · have CN := Lib.hid (at_no (i := i) HLZ.out (by rw [HM.out]; exact hi))
              by_cases c5 : i < 0
              · clear hi
                have hT2 := Below.refl u3.heap.size u3
                go_wp2_with (first
                  | (go_at_call 14; (with_reducible refine (awake_c (HO.out.below (below_step HBZ.out hT4))).mono ?_); rintro e w24 ⟨rfl, hb24⟩)
                  | (go_at_call 27; (with_reducible refine (C27.out _ hT3).mono ?_); rintro e w23 ⟨rfl, hb23⟩; have hT4 := below_step hT3 hb23)
                  | (go_at_call 31; (with_reducible refine (C31.out _ hT2).mono ?_); rintro e w22 ⟨rfl, hb22⟩; have hT3 := below_step hT2 hb22)
                  | (go_at_call 26; (with_reducible refine (C26.out _ hT2).mono ?_); rintro e w25 ⟨rfl, hw25⟩; rw [hw25]; clear hw25)
                  | (go_at_call 28; (with_reducible refine CN.out.mono ?_); rintro e w21 ⟨rfl, hw21⟩; rw [hw21]; clear hw21))
                go_ret
                exact ⟨rfl, below_step (below_step HBZ.out hT4) hb24⟩
              · have c6 : ¬ i < (k : Int) := by omega
                clear hi
                have hT2 := Below.refl u3.heap.size u3
                go_wp2_with (first
                  | (go_at_call 14; (with_reducible refine (awake_c (HO.out.below (below_step HBZ.out hT4))).mono ?_); rintro e w24 ⟨rfl, hb24⟩)
                  | (go_at_call 27; (with_reducible refine (C27.out _ hT3).mono ?_); rintro e w23 ⟨rfl, hb23⟩; have hT4 := below_step hT3 hb23)
                  | (go_at_call 31; (with_reducible refine (C31.out _ hT2).mono ?_); rintro e w22 ⟨rfl, hb22⟩; have hT3 := below_step hT2 hb22)
                  | (go_at_call 26; (with_reducible refine (C26.out _ hT2).mono ?_); rintro e w25 ⟨rfl, hw25⟩; rw [hw25]; clear hw25)
                  | (go_at_call 28; (with_reducible refine CN.out.mono ?_); rintro e w21 ⟨rfl, hw21⟩; rw [hw21]; clear hw21))
                go_ret
                exact ⟨rfl, below_step (below_step HBZ.out hT4) hb24⟩
end Go.Proofs.YtgccffeoaaibaaaDoor.A
