/- For every byte list: of at most 2^20 bytes, the instruction drawn from it is either refused by both, or the registers that it reads and writes and its name answer as the law says; of a longer one the law asks nothing. -/
import Derived.Test.YtomehbmijdjjfaaHUFnUsesStmt
import Derived.Test.YtomehbmijdjjfaaAid
import Derived.Test.YtomehbmijdjjfaaLoopAid
import Derived.Test.YtomehbmijdjjfaaDrawHU
import Derived.Test.YtomehbmijdjjfaaPickHU
import Derived.Test.YtomehbmijdjjfaaInsOkHU
import Derived.Test.YtomehbmijdjjfaaRegsIHU
set_option linter.unusedVariables false
set_option linter.unusedSimpArgs false
namespace Go.Proofs.Ytomehbmijdjjfaa.Pure
open Go.RowKit Go.Proofs.Ytomehbmijdjjfaa.HU Go.Proofs.YtomehbmijdjjfaaW.PrintWords Go.Proofs.YtomehbmijdjjfaaW.PrintLast Go.Proofs.Ytomehbmijdjjfaa.Aid

theorem any_ok {b : List Int} (hb : b.length ≤ 140737488351232) : ∃ r, Ev (fun k => spec_DrawReadsRegs.f k b) r := by
  obtain ⟨i, h, ⟨K0, h0⟩, hi⟩ := new_ok b
  have plain : ∃ op x y z i' h', spec_l04Plain.f b i h = some (op, x, y, z, i', h') ∧ Rok b i' := by
    unfold spec_l04Plain.f
    obtain ⟨n, i1, g1, e1, hn0, hn1, _, hi1⟩ := below_ok (h := h) hb hi 9
    obtain ⟨m, i2, g2, e2, hm0, hm1, _, hi2⟩ := below_ok (h := g1) hb hi1 4
    simp only [e1, e2, Option.bind_some]
    by_cases c1 : wrap64 (1 + n) = 1
    · rw [if_pos c1]
      obtain ⟨u, i3, g3, e3, _, _, _, hi3⟩ := below_ok (h := g2) hb hi2 6
      rw [e3, Option.bind_some]
      exact ⟨_, _, _, _, _, _, rfl, hi3⟩
    · rw [if_neg c1]
      by_cases c2 : wrap64 (1 + n) = 8
      · rw [if_pos c2]; exact ⟨_, _, _, _, _, _, rfl, hi2⟩
      · rw [if_neg c2]
        obtain ⟨u, i3, g3, e3, _, _, _, hi3⟩ := below_ok (h := g2) hb hi2 4
        rw [e3]
        by_cases c3 : wrap64 (1 + n) = 2
        · rw [if_pos c3]; exact ⟨_, _, _, _, _, _, rfl, hi3⟩
        · rw [if_neg c3, Option.bind_some]
          obtain ⟨v, i4, g4, e4, _, _, _, hi4⟩ := below_ok (h := g3) hb hi3 4
          rw [e4]; exact ⟨_, _, _, _, _, _, rfl, hi4⟩
  have memory : ∀ i h, Rok b i → ∃ op x y z i' h', spec_l04Memory.f b i h = some (op, x, y, z, i', h') ∧ Rok b i' := by
    intro i h hi
    unfold spec_l04Memory.f
    obtain ⟨n, i1, g1, e1, _, hi1⟩ := pick_ok (h := h) hb hi [13, 14, 15] (by simp)
    obtain ⟨m, i2, g2, e2, hm0, hm1, _, hi2⟩ := below_ok (h := g1) hb hi1 4
    obtain ⟨u, i3, g3, e3, _, _, _, hi3⟩ := below_ok (h := g2) hb hi2 4
    simp only [e1, e2, e3, Option.bind_some]
    exact ⟨_, _, _, _, _, _, rfl, hi3⟩
  have j0 : ∀ k i h op x y z, Rok b i → ∃ q, spec_l04Any.j0 (k + 1) b i h op x y z = some q := by
    intro k i h op x y z hi
    obtain ⟨n, i1, g1, e1, _, _, _, hi1⟩ := below_ok (h := h) hb hi 7
    simp only [spec_l04Any.j0, e1, Option.bind_some]
    obtain ⟨_, _, _, e2, _⟩ := below_ok (h := g1) hb hi1 19
    obtain ⟨_, _, _, e3, _⟩ := pick_ok (h := g1) hb hi1 [(-1), 3, 4] (by simp)
    obtain ⟨_, _, _, e4, _⟩ := pick_ok (h := g1) hb hi1 [(-1), 4, 32, 33, 65535, 65536] (by simp)
    obtain ⟨_, _, _, e5, _⟩ := pick_ok (h := g1) hb hi1 [(-1), 0, 4] (by simp)
    rw [e2, e3, e4, e5]
    by_cases n0 : n = 0
    · rw [if_pos n0]; exact ⟨_, rfl⟩
    · rw [if_neg n0]
      by_cases n1 : n = 1
      · rw [if_pos n1]; exact ⟨_, rfl⟩
      · rw [if_neg n1]
        by_cases n2 : n = 2
        · rw [if_pos n2]; exact ⟨_, rfl⟩
        · rw [if_neg n2]
          by_cases n3 : n = 3
          · rw [if_pos n3]; exact ⟨_, rfl⟩
          · rw [if_neg n3]; exact ⟨_, rfl⟩
  have any : ∃ q, Ev (fun k => spec_l04Any.f k b i h) q := by
    obtain ⟨op, x, y, z, i1, g1, e1, hi1⟩ := plain
    obtain ⟨n, i2, g2, e2, _, _, _, hi2⟩ := below_ok (h := g1) hb hi1 4
    have e2' : spec_l01Once.f b i1 g1 4 = some ((n == 0), i2, g2) := by unfold spec_l01Once.f; rw [e2]; rfl
    by_cases hn : (n == 0) = true
    · obtain ⟨op', x', y', z', i3, g3, e3, hi3⟩ := memory i2 g2 hi2
      obtain ⟨q, hq⟩ := j0 0 i3 g3 op' x' y' z' hi3
      refine ⟨q, 1, fun k hk => ?_⟩
      have hq' := at_rounds (g := fun k => spec_l04Any.j0 k b i3 g3 op' x' y' z') (fun k => spec_l04Any.mono_l k _ _ _ _ _ _ _) (k := 1) (k' := k) hk hq
      show spec_l04Any.f k b i h = some q
      unfold spec_l04Any.f
      simp only [e1, e2', e3, hn, Option.bind_some, if_true]
      exact hq'
    · obtain ⟨q, hq⟩ := j0 0 i2 g2 op x y z hi2
      refine ⟨q, 1, fun k hk => ?_⟩
      have hq' := at_rounds (g := fun k => spec_l04Any.j0 k b i2 g2 op x y z) (fun k => spec_l04Any.mono_l k _ _ _ _ _ _ _) (k := 1) (k' := k) hk hq
      show spec_l04Any.f k b i h = some q
      unfold spec_l04Any.f
      simp only [e1, e2', hn, Option.bind_some, if_false]
      exact hq'
  obtain ⟨q, K1, h1⟩ := any
  refine ⟨(q.1, q.2.1, q.2.2.1, q.2.2.2.1), K0 + K1, fun k hk => ?_⟩
  have e0 : spec_l01New.f k b = some (b, i, h) := h0 k (by omega)
  have e1 : spec_l04Any.f k b i h = some q := h1 k (by omega)
  show spec_DrawReadsRegs.f k b = some _
  unfold spec_DrawReadsRegs.f
  simp only [e0, e1, Option.bind_some]
theorem ins_facts {op a b c s : Int} (h : insOkB op a b c s = true) : 0 ≤ op ∧ op ≤ 16 ∧ (∀ x ∈ regsOf op a b c, 0 ≤ x ∧ x ≤ 3) ∧ ((1 ≤ op ∧ op ≤ 9 ∨ op = 13) → 0 ≤ a ∧ a ≤ 3) := by
  have h0 : 0 ≤ op ∧ op ≤ 16 := by
    refine Classical.byContradiction fun hn => ?_
    unfold insOkB at h
    rw [if_neg (by omega), if_neg (by omega), if_neg (by omega), if_neg (by omega), if_neg (by omega), if_neg (by omega), if_neg (by omega)] at h
    simp at h
  refine ⟨h0.1, h0.2, ?_⟩
  have hc : op = 0 ∨ op = 1 ∨ op = 2 ∨ op = 3 ∨ op = 4 ∨ op = 5 ∨ op = 6 ∨ op = 7 ∨ op = 8 ∨ op = 9 ∨ op = 10 ∨ op = 11 ∨ op = 12 ∨ op = 13 ∨ op = 14 ∨ op = 15 ∨ op = 16 := by omega
  rcases hc with rfl | rfl | rfl | rfl | rfl | rfl | rfl | rfl | rfl | rfl | rfl | rfl | rfl | rfl | rfl | rfl | rfl <;>
    (simp [insOkB, inB] at h; simp [regsOf]; try omega)
theorem opName_some {op : Int} (h0 : 0 ≤ op) (h1 : op ≤ 16) : ∃ t, impl_OpName.f op = some t ∧ (t.toList != ([] : List UInt8)) = true := by
  have key : ∀ n : Fin 17, ∃ t, impl_OpName.f (n.val : Int) = some t ∧ t.data.toList ≠ [] := by
    intro n
    have : n.val = 0 ∨ n.val = 1 ∨ n.val = 2 ∨ n.val = 3 ∨ n.val = 4 ∨ n.val = 5 ∨ n.val = 6 ∨ n.val = 7 ∨ n.val = 8 ∨ n.val = 9 ∨ n.val = 10 ∨ n.val = 11 ∨ n.val = 12 ∨ n.val = 13 ∨ n.val = 14 ∨ n.val = 15 ∨ n.val = 16 := by omega
    rcases this with e | e | e | e | e | e | e | e | e | e | e | e | e | e | e | e | e <;> (rw [e]; exact ⟨_, rfl, by intro h; cases h⟩)
  obtain ⟨t, e, h⟩ := key ⟨op.toNat, by omega⟩
  refine ⟨t, ?_, ?_⟩
  · rw [← e]; congr 1; simp only; omega
  · rw [toList_data]; simpa using h
theorem FnUses : laws_FnUses.PureH := by
  intro l h8 _
  unfold laws_FnUses.f laws_big.f
  by_cases hb : (l.length : Int) > 1048576
  · exact ⟨0, by rw [Option.bind_some, if_pos (by simpa using hb)]⟩
  obtain ⟨⟨op, a, b, c⟩, K1, h1⟩ := any_ok (b := l) (by omega)
  cases hv : insOkB op a b c 32 with
  | false =>
    refine ⟨K1 + 2, ?_⟩
    have e1 : spec_DrawReadsRegs.f (K1 + 2) l = some (op, a, b, c) := h1 _ (by omega)
    simp only [e1, Option.bind_some]
    rw [if_neg (by simpa using hb), specInsOk_val, hv, Option.bind_some, if_neg (by decide), insOk_val, hv]
    rfl
  | true =>
    obtain ⟨o0, o1, hregs, hwr⟩ := ins_facts hv
    have hlen : (srt (regsOf op a b c)).length ≤ 3 := Nat.le_trans (srt_len _) (regsOf_len _ _ _ _)
    obtain ⟨hasc, hmem⟩ := srt_spec (regsOf op a b c)
    obtain ⟨t, et, ht⟩ := opName_some o0 o1
    have hw : ∃ w, impl_WritesReg.f op a b c = some w ∧ ((w = -1) ∨ (0 ≤ w ∧ w ≤ 3 ∧ (1 ≤ op ∧ op ≤ 9 ∨ op = 13))) := by
      unfold impl_WritesReg.f
      rw [within_val, Option.bind_some]
      by_cases c1 : inB op 1 9 = true
      · rw [if_pos c1]
        have : 1 ≤ op ∧ op ≤ 9 := by simpa [inB] using c1
        have := hwr (.inl this)
        exact ⟨_, rfl, .inr ⟨this.1, this.2, .inl (by assumption)⟩⟩
      · rw [if_neg c1]
        by_cases c2 : op = 13
        · rw [if_pos c2]
          have := hwr (.inr c2)
          exact ⟨_, rfl, .inr ⟨this.1, this.2, .inr c2⟩⟩
        · rw [if_neg c2]; exact ⟨_, rfl, .inl rfl⟩
    obtain ⟨w, ew, hw⟩ := hw
    have loop := loop_to (fun k n (_ : Unit) => laws_FnUses.l0 k (srt (regsOf op a b c)) w (n : Int) op a b c) (srt (regsOf op a b c)).length (fun _ _ => True) true
      (fun n s hn _ => Or.inl ⟨(), trivial, 0, fun k _ => by
        simp only [laws_FnUses.l0]
        have hx : rd (srt (regsOf op a b c)) (n : Int) ∈ srt (regsOf op a b c) := rd_in (by omega) (by omega)
        have hx' := hregs _ ((hmem _).1 hx)
        rw [if_pos (by omega), if_pos (by omega), if_neg (by omega), if_neg (by omega), wrap_succ hn (by omega)]
        by_cases h0 : (n : Int) > 0
        · have hp : wrap64 ((n : Int) - 1) = ((n - 1 : Nat) : Int) := by rw [wrap_id (by omega) (by omega)]; omega
          have hlt : rd (srt (regsOf op a b c)) ((n - 1 : Nat) : Int) < rd (srt (regsOf op a b c)) (n : Int) := by
            have g1 : rd (srt (regsOf op a b c)) ((n - 1 : Nat) : Int) = (srt (regsOf op a b c))[n - 1] := by
              have := rd_at (l := srt (regsOf op a b c)) (n := n - 1) (by omega)
              rw [List.getElem?_eq_getElem (by omega)] at this
              exact (Option.some.inj this).symm
            have g2 : rd (srt (regsOf op a b c)) (n : Int) = (srt (regsOf op a b c))[n] := by
              have := rd_at (l := srt (regsOf op a b c)) (n := n) (by omega)
              rw [List.getElem?_eq_getElem (by omega)] at this
              exact (Option.some.inj this).symm
            rw [g1, g2]
            exact List.pairwise_iff_getElem.1 hasc (n - 1) n (by omega) hn (by omega)
          rw [if_pos h0, hp, if_pos (by omega), if_pos (by omega), if_neg (by omega)]
        · rw [if_neg h0]⟩)
      (fun s _ => ⟨0, fun k _ => by
        simp only [laws_FnUses.l0]
        have hl : impl_IsLocal.f op a b c = some (inB op 0 12) := by unfold impl_IsLocal.f; rw [within_val]; rfl
        rw [if_neg (by omega), if_pos (by omega), if_pos (by omega), if_pos (by omega), et, hl]
        simp only [Option.bind_some, ht]
        rcases hw with hw | ⟨_, _, hw⟩
        · rw [if_pos (by omega)]
        · rcases hw with hw | hw
          · have : inB op 0 12 = true := by simp [inB]; omega
            rw [this]; simp
          · simp [hw]⟩) 0 () (by omega) trivial
    obtain ⟨K2, h2⟩ := loop
    refine ⟨K1 + K2 + 3, ?_⟩
    have e1 : spec_DrawReadsRegs.f (K1 + K2 + 3) l = some (op, a, b, c) := h1 _ (by omega)
    have e2 : laws_FnUses.l0 (K1 + K2 + 3) (srt (regsOf op a b c)) w 0 op a b c = some true := h2 _ (by omega)
    simp only [e1, Option.bind_some]
    rw [if_neg (by simpa using hb), specInsOk_val, hv, Option.bind_some, if_pos rfl, implRegs_val, Option.bind_some, ew, Option.bind_some]
    exact e2

end Go.Proofs.Ytomehbmijdjjfaa.Pure
