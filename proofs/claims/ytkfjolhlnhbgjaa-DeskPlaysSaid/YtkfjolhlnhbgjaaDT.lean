/- The desk's Tick. Conditions: the desk is one that New made. -/
import Derived.Test.YtkfjolhlnhbgjaaDB
namespace Go.Proofs.Ytkfjolhlnhbgjaa.D
open Go.RowKit Go.Proofs.Ytkfjolhlnhbgjaa.P Go.Proofs.YtkfjolhlnhbgjaaBase Go.Proofs.YtkfjolhlnhbgjaaW.PrintWords Go.Proofs.YtkfjolhlnhbgjaaW.PrintLast Go.Proofs.Ytkfjolhlnhbgjaa.Q Go.Proofs.Ytkfjolhlnhbgjaa.L
set_option linter.unusedVariables false
set_option linter.unusedSimpArgs false

def tickG (g : G) : G := 
  let g1 : G := if g.locked > 0 then { g with locked := g.locked - 1 } else g
  if g.opn = true then (if g.silent + 1 ≥ 24 then { g1 with opn := false, silent := 0 } else { g1 with silent := g.silent + 1 }) else g1
def dies (g : G) : Bool := g.opn && decide (g.silent + 1 ≥ 24)
def tickK (gs : List G) : Nat → List G
  | 0 => gs
  | k + 1 => (tickK gs k).set k (tickG (gs.getD k g0))
def goneK (gs : List G) : Nat → List Int
  | 0 => []
  | k + 1 => if dies (gs.getD k g0) = true then goneK gs k ++ [(k : Int)] else goneK gs k
theorem goneK_len (gs : List G) (k : Nat) : (goneK gs k).length ≤ k := by
  induction k with
  | zero => simp [goneK]
  | succ k ih =>
    simp only [goneK]
    split
    · rw [List.length_append, List.length_singleton]; omega
    · omega
theorem tg_100 {g : G} (h1 : 0 < g.locked) (h2 : g.opn = false) : tickG g = { g with locked := g.locked - 1 } := by
  have h1' : g.locked > 0 := h1
  simp [tickG, h1', h2]
theorem tg_111 {g : G} (h1 : 0 < g.locked) (h2 : g.opn = true) (h3 : 24 ≤ g.silent + 1) : tickG g = { g with locked := g.locked - 1, opn := false, silent := 0 } := by
  have h1' : g.locked > 0 := h1
  simp [tickG, h1', h2, h3]
theorem tg_110 {g : G} (h1 : 0 < g.locked) (h2 : g.opn = true) (h3 : ¬ 24 ≤ g.silent + 1) : tickG g = { g with locked := g.locked - 1, silent := g.silent + 1 } := by
  have h1' : g.locked > 0 := h1
  simp [tickG, h1', h2, h3]
theorem tg_000 {g : G} (h1 : ¬ 0 < g.locked) (h2 : g.opn = false) : tickG g = g := by
  have h1' : ¬ g.locked > 0 := h1
  simp [tickG, h1', h2]
theorem tg_011 {g : G} (h1 : ¬ 0 < g.locked) (h2 : g.opn = true) (h3 : 24 ≤ g.silent + 1) : tickG g = { g with opn := false, silent := 0 } := by
  have h1' : ¬ g.locked > 0 := h1
  simp [tickG, h1', h2, h3]
theorem tg_010 {g : G} (h1 : ¬ 0 < g.locked) (h2 : g.opn = true) (h3 : ¬ 24 ≤ g.silent + 1) : tickG g = { g with silent := g.silent + 1 } := by
  have h1' : ¬ g.locked > 0 := h1
  simp [tickG, h1', h2, h3]
theorem tickK_len (gs : List G) (k : Nat) : (tickK gs k).length = gs.length := by
  induction k with
  | zero => rfl
  | succ k ih => show ((tickK gs k).set k _).length = _; rw [List.length_set, ih]
theorem tickK_far (gs : List G) (k j : Nat) (h : k ≤ j) : (tickK gs k).getD j g0 = gs.getD j g0 := by
  induction k with
  | zero => rfl
  | succ k ih =>
    simp only [tickK]
    rw [← ih (by omega)]
    simp only [List.getD_eq_getElem?_getD]
    rw [List.getElem?_set_ne (by omega)]
theorem DeskAt.grown {n0 : Nat} {W w1 : World} {b : Nat} {p : Pol} {y : PAt} {bl : Nat} {gs : List G} {base : Nat} {ok : Nat → Prop} {v : Value} {xs : List Int} (h : DeskAt n0 W b p y bl gs) (hv : Kd.R (Kd.int .i64) 3 W base ok v xs) (hg : W.grownBy w1 v.ownBlock) : DeskAt n0 w1 b p y bl gs :=
  ⟨blk_grown h.d hg (Kd.R_ne hv h.d (by decide)), blk_grown h.g hg (Kd.R_ne hv h.g (by decide)), ⟨Kd.R_over h.o.r0 hv (by decide) hg, Kd.R_over h.o.r1 hv (by decide) hg, Kd.R_over h.o.r2 hv (by decide) hg⟩, h.hb, h.hl⟩
theorem own_ge {α : Type} {d : Kd α} {e base : Nat} {w : World} {ok : Nat → Prop} {v : Value} {xs : List α} (h : Kd.R d e w base ok v xs) : ∀ k, v.ownBlock = some k → base ≤ k := fun k hk => ((Kd.R_bound h).1 k hk).2.1
theorem Only.grown {bl : Nat} {W W1 w2 : World} (h : Only bl W W1) {row : Option Nat} (hg : W1.grownBy w2 row) (hr : ∀ k, row = some k → W.heap.size ≤ k) : Only bl W w2 := by
  have hsz := (h.bel 0 (Nat.zero_le _) (Nat.zero_le _)).size
  refine ⟨fun k hk hn => ?_, fun n h1 h2 => ?_⟩
  · rw [← h.blk k hk hn]
    exact hg.block k (Nat.lt_of_lt_of_le hk hsz) (fun he => by have := hr k he.symm; omega)
  · exact pw_below_grown (h.bel n h1 h2) row (Nat.le_trans h2 hsz) hg (fun k hk => Nat.le_trans h2 (hr k hk))
set_option maxHeartbeats 8000000 in
theorem tick_k {n0 : Nat} {W : World} {b : Nat} {p : Pol} {y : PAt} {bl : Nat} {gs : List G} (h : DeskAt n0 W b p y bl gs) (hn : gs.length ≤ 8) (hgd : ∀ k, k < gs.length → 0 ≤ (gs.getD k g0).silent ∧ (gs.getD k g0).silent ≤ 23 ∧ 0 ≤ (gs.getD k g0).locked ∧ (gs.getD k g0).locked ≤ 20) :
    Calls Try.prog 21 #[.pointer (some ⟨b, 0, none⟩)] W fun e w' => ∃ v, e = .returned v ∧ Kd.R (Kd.int .i64) 3 w' W.heap.size (fun _ => True) v (goneK gs gs.length) ∧ DeskAt n0 w' b p y bl (tickK gs gs.length) ∧ Only bl W w' := by
  obtain ⟨x0, x1, x2, x3, x4⟩ := boxed5 h.d
  have H := Lib.hid h
  have GD := Lib.hid hgd
  clear h hgd
  go_enter Try.func21, Try.ntmps21
  go_wp2
  go_loopw [3, 21] (fun v i wr => ∃ k : Nat, k ≤ gs.length ∧ i = .int .i64 k ∧ Hid (Kd.R (Kd.int .i64) 3 wr W.heap.size (fun _ => True) v (goneK gs k)) ∧ Hid (DeskAt n0 wr b p y bl (tickK gs k)) ∧ Hid (Only bl W wr)) (fun _ i _ => gs.length - (intOf i).toNat)
  case atStart => exact ⟨0, Nat.zero_le _, rfl, Lib.hid (Kd.R_nil _ _ _ _ _), H, Lib.hid (Only.of (Below.refl _ _))⟩
  case round =>
    obtain ⟨k, hk, rfl, HO, D0, ON⟩ := hrel
    have hlen := tickK_len gs k
    obtain ⟨x0, x1, x2, x3, x4⟩ := boxed5 D0.out.d
    rw [hlen] at x3
    by_cases hlt : k < gs.length
    · have hlt' : k < (tickK gs k).length := by omega
      obtain ⟨c0, c1, c2, c3, c4⟩ := D0.out.guest k hlt'
      rw [tickK_far gs k k (Nat.le_refl _)] at c0 c1 c2 c3 c4
      obtain ⟨g1, g2, g3, g4⟩ := GD.out k hlt
      obtain ⟨g, hg⟩ : ∃ g, Hid (gs.getD k g0 = g) := ⟨_, Lib.hid rfl⟩
      have hself : (tickK gs k).set k g = tickK gs k := by rw [← hg.out, ← tickK_far gs k k (Nat.le_refl _)]; exact set_self _ _ hlt'
      have HS := Lib.hid hself
      clear hself
      rw [hg.out] at c0 c1 c2 c3 c4 g1 g2 g3 g4
      have z1 := free_blk D0.out.g (k * 5 + 1)
      have z2 := free_blk D0.out.g (k * 5 + 2)
      have z4 := free_blk D0.out.g (k * 5 + 4)
      have zb := lt_blk D0.out.d
      have zl := lt_blk D0.out.g
      by_cases hl0 : g.locked > 0
      · have HL0 := Lib.hid hl0
        cases ho : g.opn
        · go_wp2
          go_roundw
          case rel =>
            have D1 := D0.out
            rw [← HS.out] at D1
            refine ⟨k + 1, by omega, by go_num, Lib.hid ?_, Lib.hid ?_, Lib.hid ?_⟩
            · rw [show goneK gs (k + 1) = goneK gs k by simp only [goneK, hg.out]; rw [if_neg (by simp [dies, ho])]]
              exact (R_farT HO.out D0.out.g (by decide) _ _)
            · rw [show tickK gs (k + 1) = (tickK gs k).set k { g with locked := g.locked - 1 } by simp only [tickK, hg.out]; congr 1; exact tg_100 (by have := HL0.out; omega) ho]
              exact (D1.put' 4 hlt' (by omega) { g with locked := g.locked - 1 } _ (by first | rfl | go_num | simp [G.cells, *]))
            · exact (ON.out.step Only.put)
          case measure => simp [intOf]; omega
        · by_cases h24 : g.silent + 1 ≥ 24
          · have D1 := D0.out
            rw [← HS.out] at D1
            go_wp2_with ((with_reducible refine gate_builtin (b := .append) (xs := #[.tmp 65, .tmp 67]) rfl ?_); at_builtin; refine Hid.out ?_)
            refine Lib.hid ?_
            refine Kd.R_append (Kd.int .i64) (w0 := ?aW1) W.heap.size rfl (.tmp 65) (.tmp 67) 37 3 (.int .i64 0) 8 rfl Try.underlying37 (by kernel_rfl) rfl (by decide) (by omega) u3 (goneK gs k) (k : Int) [.int .i64 k] (fun _ => True) (fun _ => False) rfl ?aX1 ?aP1 (fun _ hk => hk.elim) ?aF1 ?aO1 ?aB1 ?aS1 ?aL1 ?_
            (case aP1 => exact rfl)
            (case aX1 => show Value.slice (some ⟨wr.heap.size, 0, none⟩) 1 1 = _; simp)
            (case aF1 => exact fun _ _ => trivial)
            (case aO1 => exact (R_farT (R_farT (R_farT (R_farT HO.out D0.out.g (by decide) _ _) (set_blk D0.out.g _) (by decide) _ _) (set_blk (set_blk D0.out.g _) _) (by decide) _ _) (set_blk (set_blk (set_blk D0.out.g _) _) _) (by decide) _ _))
            (case aB1 => exact Below.refl _ _)
            (case aS1 => exact ((((((ON.out.step Only.put).step Only.put).step Only.put).step Only.put)).bel 0 (Nat.zero_le _) (Nat.zero_le _)).size)
            (case aL1 => have := goneK_len gs k; omega)
            intro v1 w1 hor hb hgr hat
            go_wp2
            go_roundw
            case rel =>
              refine ⟨k + 1, by omega, by go_num, Lib.hid ?_, Lib.hid ?_, Lib.hid ?_⟩
              · rw [show goneK gs (k + 1) = goneK gs k ++ [(k : Int)] by simp only [goneK, hg.out]; rw [if_pos (by simp only [dies, ho, Bool.true_and, decide_eq_true_eq]; omega)]]
                exact hor
              · rw [show tickK gs (k + 1) = (tickK gs k).set k { g with locked := g.locked - 1, opn := false, silent := 0 } by simp only [tickK, hg.out]; congr 1; exact tg_111 (by have := HL0.out; omega) ho (by omega)]
                exact DeskAt.grown (hg := hgr) (hv := by exact (R_farT (R_farT (R_farT (R_farT HO.out D0.out.g (by decide) _ _) (set_blk D0.out.g _) (by decide) _ _) (set_blk (set_blk D0.out.g _) _) (by decide) _ _) (set_blk (set_blk (set_blk D0.out.g _) _) _) (by decide) _ _)) (h := by exact ((((D1.put' 4 hlt' (by omega) { g with locked := g.locked - 1 } _ (by first | rfl | go_num | simp [G.cells, *])).put' 2 hlt' (by omega) { g with locked := g.locked - 1, silent := g.silent + 1 } _ (by first | rfl | go_num | simp [G.cells, *])).put' 1 hlt' (by omega) { g with locked := g.locked - 1, silent := g.silent + 1, opn := false } _ (by first | rfl | go_num | simp [G.cells, *])).put' 2 hlt' (by omega) { g with locked := g.locked - 1, opn := false, silent := 0 } _ (by first | rfl | go_num | simp [G.cells, *])))
              · exact Only.grown (hg := hgr) (h := by exact ((((ON.out.step Only.put).step Only.put).step Only.put).step Only.put)) (hr := own_ge HO.out)
            case measure => simp [intOf]; omega
          · go_wp2
            go_roundw
            case rel =>
              have D1 := D0.out
              rw [← HS.out] at D1
              refine ⟨k + 1, by omega, by go_num, Lib.hid ?_, Lib.hid ?_, Lib.hid ?_⟩
              · rw [show goneK gs (k + 1) = goneK gs k by simp only [goneK, hg.out]; rw [if_neg (by simp [dies, ho, h24])]]
                exact (R_farT (R_farT HO.out D0.out.g (by decide) _ _) (set_blk D0.out.g _) (by decide) _ _)
              · rw [show tickK gs (k + 1) = (tickK gs k).set k { g with locked := g.locked - 1, silent := g.silent + 1 } by simp only [tickK, hg.out]; congr 1; exact tg_110 (by have := HL0.out; omega) ho (by omega)]
                exact ((D1.put' 4 hlt' (by omega) { g with locked := g.locked - 1 } _ (by first | rfl | go_num | simp [G.cells, *])).put' 2 hlt' (by omega) { g with locked := g.locked - 1, silent := g.silent + 1 } _ (by first | rfl | go_num | simp [G.cells, *]))
              · exact ((ON.out.step Only.put).step Only.put)
            case measure => simp [intOf]; omega
      · have HL0 := Lib.hid hl0
        cases ho : g.opn
        · go_wp2
          go_roundw
          case rel =>
            have D1 := D0.out
            rw [← HS.out] at D1
            refine ⟨k + 1, by omega, by go_num, Lib.hid ?_, Lib.hid ?_, Lib.hid ?_⟩
            · rw [show goneK gs (k + 1) = goneK gs k by simp only [goneK, hg.out]; rw [if_neg (by simp [dies, ho])]]
              exact HO.out
            · rw [show tickK gs (k + 1) = (tickK gs k).set k g by simp only [tickK, hg.out]; congr 1; exact tg_000 (by have := HL0.out; omega) ho]
              exact D1
            · exact ON.out
          case measure => simp [intOf]; omega
        · by_cases h24 : g.silent + 1 ≥ 24
          · have D1 := D0.out
            rw [← HS.out] at D1
            go_wp2_with ((with_reducible refine gate_builtin (b := .append) (xs := #[.tmp 65, .tmp 67]) rfl ?_); at_builtin; refine Hid.out ?_)
            refine Lib.hid ?_
            refine Kd.R_append (Kd.int .i64) (w0 := ?aW0) W.heap.size rfl (.tmp 65) (.tmp 67) 37 3 (.int .i64 0) 8 rfl Try.underlying37 (by kernel_rfl) rfl (by decide) (by omega) u3 (goneK gs k) (k : Int) [.int .i64 k] (fun _ => True) (fun _ => False) rfl ?aX0 ?aP0 (fun _ hk => hk.elim) ?aF0 ?aO0 ?aB0 ?aS0 ?aL0 ?_
            (case aP0 => exact rfl)
            (case aX0 => show Value.slice (some ⟨wr.heap.size, 0, none⟩) 1 1 = _; simp)
            (case aF0 => exact fun _ _ => trivial)
            (case aO0 => exact (R_farT (R_farT (R_farT HO.out D0.out.g (by decide) _ _) (set_blk D0.out.g _) (by decide) _ _) (set_blk (set_blk D0.out.g _) _) (by decide) _ _))
            (case aB0 => exact Below.refl _ _)
            (case aS0 => exact (((((ON.out.step Only.put).step Only.put).step Only.put)).bel 0 (Nat.zero_le _) (Nat.zero_le _)).size)
            (case aL0 => have := goneK_len gs k; omega)
            intro v1 w1 hor hb hgr hat
            go_wp2
            go_roundw
            case rel =>
              refine ⟨k + 1, by omega, by go_num, Lib.hid ?_, Lib.hid ?_, Lib.hid ?_⟩
              · rw [show goneK gs (k + 1) = goneK gs k ++ [(k : Int)] by simp only [goneK, hg.out]; rw [if_pos (by simp only [dies, ho, Bool.true_and, decide_eq_true_eq]; omega)]]
                exact hor
              · rw [show tickK gs (k + 1) = (tickK gs k).set k { g with opn := false, silent := 0 } by simp only [tickK, hg.out]; congr 1; exact tg_011 (by have := HL0.out; omega) ho (by omega)]
                exact DeskAt.grown (hg := hgr) (hv := by exact (R_farT (R_farT (R_farT HO.out D0.out.g (by decide) _ _) (set_blk D0.out.g _) (by decide) _ _) (set_blk (set_blk D0.out.g _) _) (by decide) _ _)) (h := by exact (((D1.put' 2 hlt' (by omega) { g with silent := g.silent + 1 } _ (by first | rfl | go_num | simp [G.cells, *])).put' 1 hlt' (by omega) { g with silent := g.silent + 1, opn := false } _ (by first | rfl | go_num | simp [G.cells, *])).put' 2 hlt' (by omega) { g with opn := false, silent := 0 } _ (by first | rfl | go_num | simp [G.cells, *])))
              · exact Only.grown (hg := hgr) (h := by exact (((ON.out.step Only.put).step Only.put).step Only.put)) (hr := own_ge HO.out)
            case measure => simp [intOf]; omega
          · go_wp2
            go_roundw
            case rel =>
              have D1 := D0.out
              rw [← HS.out] at D1
              refine ⟨k + 1, by omega, by go_num, Lib.hid ?_, Lib.hid ?_, Lib.hid ?_⟩
              · rw [show goneK gs (k + 1) = goneK gs k by simp only [goneK, hg.out]; rw [if_neg (by simp [dies, ho, h24])]]
                exact (R_farT HO.out D0.out.g (by decide) _ _)
              · rw [show tickK gs (k + 1) = (tickK gs k).set k { g with silent := g.silent + 1 } by simp only [tickK, hg.out]; congr 1; exact tg_010 (by have := HL0.out; omega) ho (by omega)]
                exact (D1.put' 2 hlt' (by omega) { g with silent := g.silent + 1 } _ (by first | rfl | go_num | simp [G.cells, *]))
              · exact (ON.out.step Only.put)
            case measure => simp [intOf]; omega
    · have hkl : k = gs.length := by omega
      subst hkl
      go_wp2
      go_ret
      exact ⟨_, rfl, HO.out, D0.out, ON.out⟩
theorem tickK_map (gs : List G) : tickK gs gs.length = gs.map tickG := by
  have key : ∀ k, k ≤ gs.length → ∀ j, (tickK gs k)[j]? = if j < k then (gs[j]?).map tickG else gs[j]? := by
    intro k
    induction k with
    | zero => intro _ j; simp [tickK]
    | succ k ih =>
      intro hk j
      simp only [tickK]
      rw [List.getElem?_set, tickK_len]
      by_cases h : k = j
      · subst h
        have hk' : k < gs.length := hk
        simp [hk', List.getD_eq_getElem?_getD]
      · rw [if_neg h, ih (by omega) j]
        by_cases h2 : j < k
        · rw [if_pos h2, if_pos (by omega)]
        · rw [if_neg h2, if_neg (by omega)]
  apply List.ext_getElem?
  intro j
  rw [key _ (Nat.le_refl _) j, List.getElem?_map]
  split
  · rfl
  · next h => rw [List.getElem?_eq_none (by omega)]; rfl
end Go.Proofs.Ytkfjolhlnhbgjaa.D
