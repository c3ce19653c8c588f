/- For every byte list: of at most 2^20 bytes the mask drawn from it is a mask, its lanes and the mask of its lanes, its count and its split answer as the law says; of a longer one the law asks nothing. -/
import Derived.Test.YtomehbmijdjjfaaHAFnMasksStmt
import Derived.Test.YtomehbmijdjjfaaAid
import Derived.Test.YtomehbmijdjjfaaLoopAid
import Derived.Test.YtomehbmijdjjfaaPlacesHA
set_option linter.unusedVariables false
set_option linter.unusedSimpArgs false
namespace Go.Proofs.Ytomehbmijdjjfaa.Pure
open Go.RowKit Go.Proofs.Ytomehbmijdjjfaa.HA Go.Proofs.YtomehbmijdjjfaaW.PrintWords Go.Proofs.YtomehbmijdjjfaaW.PrintLast Go.Proofs.Ytomehbmijdjjfaa.Aid

def lanesB (x : Nat) : List Int := ((List.range 8).filter (fun j => x.testBit j)).map (fun n : Nat => (n : Int))
theorem lanes_at : ∀ x : Fin 256, impl_LanesOf.f 20 (x.val : Int) = some (lanesB x.val) := by decide +kernel
theorem maskOf_at : ∀ x : Fin 256, impl_MaskOf.f 20 (lanesB x.val) = some ((x.val : Int), true) := by decide +kernel
theorem hasLane_at : ∀ (x : Fin 256) (j : Fin 8), impl_HasLane.f (x.val : Int) (j.val : Int) = some (x.val.testBit j.val) := by decide +kernel
theorem has_at : ∀ (x : Fin 256) (j : Fin 8), laws_has.f 20 (lanesB x.val) (j.val : Int) = some (x.val.testBit j.val) := by decide +kernel
theorem count_at : ∀ x : Fin 256, impl_CountLanes.f (x.val : Int) = some ((lanesB x.val).length : Int) := by decide +kernel
theorem isMask_at : ∀ x : Fin 256, impl_IsMask.f (x.val : Int) = some true := by decide +kernel
theorem countP_split {α : Type} (p q : α → Bool) (l : List α) : (l.filter fun x => p x && q x).length + (l.filter fun x => p x && !q x).length = (l.filter p).length := by
  induction l with
  | nil => rfl
  | cons a l ih =>
    simp only [List.filter_cons]
    cases p a <;> cases q a <;> simp <;> omega
theorem split_at : ∀ x y : Fin 256, ∃ a b : Fin 256, Go.bits .and .i64 (x.val : Int) (y.val : Int) = (a.val : Int) ∧ Go.bits .andNot .i64 (x.val : Int) (y.val : Int) = (b.val : Int)
    ∧ a.val + b.val = x.val ∧ (∀ j, a.val.testBit j = (x.val.testBit j && y.val.testBit j)) ∧ ∀ j, b.val.testBit j = (x.val.testBit j && !y.val.testBit j) := by
  intro x y
  have h1 : (BitVec.ofInt 64 (x.val : Int)).toNat = x.val := by
    rw [BitVec.ofInt_natCast, BitVec.toNat_ofNat]; exact Nat.mod_eq_of_lt (by have := x.isLt; omega)
  have h2 : (BitVec.ofInt 64 (y.val : Int)).toNat = y.val := by
    rw [BitVec.ofInt_natCast, BitVec.toNat_ofNat]; exact Nat.mod_eq_of_lt (by have := y.isLt; omega)
  have hs : (BitVec.ofInt 64 (x.val : Int) &&& ~~~ BitVec.ofInt 64 (y.val : Int)) + (BitVec.ofInt 64 (x.val : Int) &&& BitVec.ofInt 64 (y.val : Int)) = BitVec.ofInt 64 (x.val : Int) := by
    rw [BitVec.add_eq_or_of_and_eq_zero]
    · generalize BitVec.ofInt 64 (x.val : Int) = p
      generalize BitVec.ofInt 64 (y.val : Int) = q
      apply BitVec.eq_of_getLsbD_eq
      intro i hi
      simp only [BitVec.getLsbD_or, BitVec.getLsbD_and, BitVec.getLsbD_not, hi, decide_true, Bool.true_and]
      cases p.getLsbD i <;> cases q.getLsbD i <;> rfl
    · generalize BitVec.ofInt 64 (x.val : Int) = p
      generalize BitVec.ofInt 64 (y.val : Int) = q
      apply BitVec.eq_of_getLsbD_eq
      intro i hi
      simp only [BitVec.getLsbD_and, BitVec.getLsbD_not, hi, decide_true, Bool.true_and]
      cases p.getLsbD i <;> cases q.getLsbD i <;> simp
  have hle : (BitVec.ofInt 64 (x.val : Int) &&& ~~~ BitVec.ofInt 64 (y.val : Int)).toNat ≤ 255 := by
    rw [BitVec.toNat_and, h1]
    exact Nat.le_trans Nat.and_le_left (by have := x.isLt; omega)
  have hle2 : (BitVec.ofInt 64 (x.val : Int) &&& BitVec.ofInt 64 (y.val : Int)).toNat ≤ 255 := by
    rw [BitVec.toNat_and, h1]
    exact Nat.le_trans Nat.and_le_left (by have := x.isLt; omega)
  have ht := congrArg BitVec.toNat hs
  rw [BitVec.toNat_add, Nat.mod_eq_of_lt (by omega), h1] at ht
  refine ⟨⟨(BitVec.ofInt 64 (x.val : Int) &&& BitVec.ofInt 64 (y.val : Int)).toNat, by omega⟩, ⟨(BitVec.ofInt 64 (x.val : Int) &&& ~~~ BitVec.ofInt 64 (y.val : Int)).toNat, by omega⟩, ?_, ?_, ?_, ?_, ?_⟩
  · show IntKind.i64.wrap ((BitVec.ofInt 64 (x.val : Int) &&& BitVec.ofInt 64 (y.val : Int)).toNat : Int) = _
    exact wraps_i64 _ (by omega) (by omega)
  · show IntKind.i64.wrap ((BitVec.ofInt 64 (x.val : Int) &&& ~~~ BitVec.ofInt 64 (y.val : Int)).toNat : Int) = _
    exact wraps_i64 _ (by omega) (by omega)
  · show (BitVec.ofInt 64 (x.val : Int) &&& BitVec.ofInt 64 (y.val : Int)).toNat + (BitVec.ofInt 64 (x.val : Int) &&& ~~~ BitVec.ofInt 64 (y.val : Int)).toNat = x.val
    omega
  · intro j
    show Nat.testBit (BitVec.toNat _) j = _
    rw [BitVec.toNat_and, Nat.testBit_and, h1, h2]
  · intro j
    show Nat.testBit (BitVec.toNat _) j = _
    rw [BitVec.testBit_toNat, BitVec.getLsbD_and, BitVec.getLsbD_not, ← BitVec.testBit_toNat, ← BitVec.testBit_toNat, h1, h2]
    by_cases hj : j < 64
    · simp [hj]
    · have : x.val.testBit j = false := by
        apply Nat.testBit_lt_two_pow
        exact Nat.lt_of_lt_of_le (Nat.lt_of_lt_of_le x.isLt (by decide : 256 ≤ 2 ^ 64)) (Nat.pow_le_pow_right (by decide) (by omega))
      simp [this]
theorem drawMask_ok {b : List Int} (hb : b.length ≤ 140737488351232) : ∃ x : Fin 256, Ev (fun k => spec_DrawMask.f k b) (x.val : Int) := by
  obtain ⟨i, h, ⟨K0, h0⟩, hi⟩ := new_ok b
  obtain ⟨n, i1, g1, e1, hn0, hn1, _, hi1⟩ := below_ok (h := h) hb hi 256
  obtain ⟨m, i2, g2, e2, hm0, hm1, _, hi2⟩ := below_ok (h := g1) hb hi1 256
  have hn1 := hn1 (by omega)
  have hm1 := hm1 (by omega)
  obtain ⟨x, i3, h3, e3, hx, hi3⟩ := pick_ok (h := g2) hb hi2 [255, 0, 1, 15, 170, n, m] (by simp)
  have hr : 0 ≤ x ∧ x < 256 := by
    simp only [List.mem_cons, List.not_mem_nil, or_false] at hx
    rcases hx with rfl | rfl | rfl | rfl | rfl | rfl | rfl <;> omega
  have hx' : ((x.toNat : Nat) : Int) = x := by omega
  refine ⟨⟨x.toNat, by omega⟩, K0, fun k hk => ?_⟩
  have e0 : spec_l01New.f k b = some (b, i, h) := h0 k (by omega)
  show spec_DrawMask.f k b = some ((x.toNat : Nat) : Int)
  unfold spec_DrawMask.f spec_l03Mask.f
  simp only [e0, e1, e2, e3, Option.bind_some, hx']
theorem FnMasks : laws_FnMasks.PureH := by
  intro b h8 _
  unfold laws_FnMasks.f laws_big.f
  by_cases hb : (b.length : Int) > 1048576
  · exact ⟨0, by rw [Option.bind_some, if_pos (by simpa using hb)]⟩
  obtain ⟨x, K1, h1⟩ := drawMask_ok (b := b) (by omega)
  obtain ⟨l, ⟨K2, h2⟩, hl, hp⟩ := places_ok (b := b) (by omega)
  have hy := hp (rd l 0) (rd_in (by omega) (by omega))
  have hyv : ∃ y : Fin 256, Int.tmod (rd l 0) 256 = (y.val : Int) := by
    rw [Int.tmod_eq_emod_of_nonneg (by omega)]
    exact ⟨⟨((rd l 0) % 256).toNat, by omega⟩, by simp only; omega⟩
  obtain ⟨y, ey⟩ := hyv
  obtain ⟨p, q, e3, e4, hpq, hp', hq'⟩ := split_at x y
  have loop := loop_to (fun k n (_ : Unit) => laws_FnMasks.l0 k (x.val : Int) (lanesB x.val) (x.val : Int) true (p.val : Int) (q.val : Int) (n : Int)) 8 (fun _ _ => True) true
    (fun n s hn _ => Or.inl ⟨(), trivial, 20, fun k hk => by
      simp only [laws_FnMasks.l0]
      have a1 := hasLane_at x ⟨n, hn⟩
      have a2 := hasLane_at p ⟨n, hn⟩
      have a3 := hasLane_at q ⟨n, hn⟩
      have a4 := at_rounds (laws_has.mono _ _) (k := 20) (k' := k) (by omega) (has_at x ⟨n, hn⟩)
      simp only at a1 a2 a3 a4
      rw [if_pos (by omega), a1, a4, Option.bind_some, Option.bind_some, if_neg (by simp), a2, Option.bind_some, a3, hp', hq', wrap_succ (N := 8) hn (by omega)]
      cases x.val.testBit n <;> cases y.val.testBit n <;> simp⟩)
    (fun s _ => ⟨0, fun k _ => by
      simp only [laws_FnMasks.l0]
      have hlen : (lanesB p.val).length + (lanesB q.val).length = (lanesB x.val).length := by
        unfold lanesB
        simp only [List.length_map]
        rw [← countP_split (fun j => x.val.testBit j) (fun j => y.val.testBit j) (List.range 8)]
        simp only [hp', hq']
      have hl8 : (lanesB x.val).length ≤ 8 := by
        unfold lanesB
        rw [List.length_map]
        exact List.length_filter_le _ _
      have := x.isLt
      have w1 : wrap64 ((p.val : Int) + (q.val : Int)) = (x.val : Int) := by rw [wrap_id (by omega) (by omega)]; omega
      have w2 : wrap64 (((lanesB p.val).length : Int) + ((lanesB q.val).length : Int)) = ((lanesB x.val).length : Int) := by rw [wrap_id (by omega) (by omega)]; omega
      rw [if_neg (by omega)]
      simp only [isMask_at, count_at, Option.bind_some, if_true, w1, w2, beq_self_eq_true]⟩) 0 () (by omega) trivial
  obtain ⟨K3, h3⟩ := loop
  have e1 : spec_DrawMask.f (K1 + K2 + K3 + 20) b = some (x.val : Int) := h1 _ (by omega)
  have e2 : spec_DrawPlaces.f (K1 + K2 + K3 + 20) b = some l := h2 _ (by omega)
  have e5 : laws_FnMasks.l0 (K1 + K2 + K3 + 20) (x.val : Int) (lanesB x.val) (x.val : Int) true (p.val : Int) (q.val : Int) 0 = some true := h3 _ (by omega)
  have e6 := at_rounds (impl_LanesOf.mono _) (k := 20) (k' := K1 + K2 + K3 + 20) (by omega) (lanes_at x)
  have e7 := at_rounds (impl_MaskOf.mono _) (k := 20) (k' := K1 + K2 + K3 + 20) (by omega) (maskOf_at x)
  refine ⟨K1 + K2 + K3 + 20, ?_⟩
  rw [Option.bind_some, if_neg (by simpa using hb), e1, e2, Option.bind_some, Option.bind_some, if_pos (by omega), ey]
  unfold impl_SplitMask.f
  simp only [e6, e7, isMask_at, e3, e4, Option.bind_some, if_true, e5]

end Go.Proofs.Ytomehbmijdjjfaa.Pure
