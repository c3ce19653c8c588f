/- For every byte list: of at most 2^20 bytes the words drawn from it are words, and the program's words add, subtract, multiply and compare as the law says; of a longer one the law asks nothing. -/
import Derived.Test.YtomehbmijdjjfaaHAFnWordsStmt
import Derived.Test.YtomehbmijdjjfaaAid
import Derived.Test.YtomehbmijdjjfaaLoopAid
import Derived.Test.YtomehbmijdjjfaaPlacesHA
set_option linter.unusedVariables false
set_option linter.unusedSimpArgs false
namespace Go.Proofs.Ytomehbmijdjjfaa.Pure
open Go.RowKit Go.Proofs.Ytomehbmijdjjfaa.HA Go.Proofs.YtomehbmijdjjfaaW.PrintWords Go.Proofs.YtomehbmijdjjfaaW.PrintLast Go.Proofs.Ytomehbmijdjjfaa.Aid

theorem drawWord_ok {b : List Int} (hb : b.length ≤ 140737488351232) : ∃ x : Int, Ev (fun k => spec_DrawWord.f k b) x ∧ 0 ≤ x ∧ x ≤ 65535 := by
  obtain ⟨i, h, ⟨K0, h0⟩, hi⟩ := new_ok b
  obtain ⟨x, i', h', e, hx0, hx1, _⟩ := word_ok (h := h) hb hi
  refine ⟨x, ⟨K0, fun k hk => ?_⟩, hx0, hx1⟩
  have e0 : spec_l01New.f k b = some (b, i, h) := h0 k (by omega)
  show spec_DrawWord.f k b = some x
  unfold spec_DrawWord.f
  simp only [e0, Option.bind_some, e]
theorem isWord_in {a : Int} (h0 : 0 ≤ a) (h1 : a ≤ 65535) : impl_IsWord.f a = some true := by
  unfold impl_IsWord.f impl_within.f
  rw [if_pos (by omega), Option.bind_some]
  simp [h1]
theorem wrapWord_val (a : Int) : impl_WrapWord.f a = some (a % 65536) := by
  unfold impl_WrapWord.f
  rw [and_65535]
theorem wrapped_val {a b c : Int} (a0 : 0 ≤ a) (a1 : a ≤ 65535) (b0 : 0 ≤ b) (b1 : b ≤ 65535) : impl_wrapped.f a b c = some (c % 65536) := by
  unfold impl_wrapped.f
  rw [isWord_in a0 a1, isWord_in b0 b1, wrapWord_val]
  rfl
theorem wrap_mod (x : Int) : wrap64 x % 65536 = x % 65536 := by unfold wrap64; omega
theorem FnWords : laws_FnWords.PureH := by
  intro b h8 _
  unfold laws_FnWords.f laws_big.f
  by_cases hb : (b.length : Int) > 1048576
  · exact ⟨0, by rw [Option.bind_some, if_pos (by simpa using hb)]⟩
  obtain ⟨x, ⟨K1, h1⟩, x0, x1⟩ := drawWord_ok (b := b) (by omega)
  obtain ⟨l, ⟨K2, h2⟩, hl, hp⟩ := places_ok (b := b) (by omega)
  have e1 : spec_DrawWord.f (K1 + K2) b = some x := h1 _ (by omega)
  have e2 : spec_DrawPlaces.f (K1 + K2) b = some l := h2 _ (by omega)
  refine ⟨K1 + K2, ?_⟩
  rw [Option.bind_some, if_neg (by simpa using hb), e1, e2, Option.bind_some, Option.bind_some, if_pos (by omega)]
  have hy := hp (rd l 0) (rd_in (by omega) (by omega))
  have hyv : ∃ y : Int, Int.tmod (wrap64 (rd l 0 * 7)) 65536 = y ∧ 0 ≤ y ∧ y ≤ 65535 := by
    rw [wrap_id (by omega) (by omega), Int.tmod_eq_emod_of_nonneg (by omega)]
    exact ⟨_, rfl, by omega, by omega⟩
  obtain ⟨y, ey, y0, y1⟩ := hyv
  rw [ey]
  have add : impl_AddWords.f x y = some ((x + y) % 65536) := by
    unfold impl_AddWords.f; rw [wrapped_val x0 x1 y0 y1, wrap_mod]; rfl
  have add' : impl_AddWords.f y x = some ((x + y) % 65536) := by
    unfold impl_AddWords.f; rw [wrapped_val y0 y1 x0 x1, wrap_mod, Int.add_comm]; rfl
  have less : ∀ {a b : Int}, 0 ≤ a → a ≤ 65535 → 0 ≤ b → b ≤ 65535 → impl_LessWords.f a b = some (if a < b then 1 else 0) := by
    intro a b a0 a1 b0 b1
    unfold impl_LessWords.f
    rw [isWord_in a0 a1, isWord_in b0 b1]
    by_cases h : a < b <;> simp [h]
  have hs : impl_IsWord.f ((x + y) % 65536) = some true := isWord_in (by omega) (by omega)
  have sub : impl_SubWords.f ((x + y) % 65536) y = some x := by
    unfold impl_SubWords.f; rw [wrapped_val (by omega) (by omega) y0 y1, wrap_mod, Option.bind_some]
    congr 1; omega
  have sub2 : impl_SubWords.f x y = some ((x - y) % 65536) := by
    unfold impl_SubWords.f; rw [wrapped_val x0 x1 y0 y1, wrap_mod]; rfl
  have mul : impl_MulWords.f x y = some ((x * y) % 65536) := by
    unfold impl_MulWords.f; rw [wrapped_val x0 x1 y0 y1, wrap_mod]; rfl
  have mul' : impl_MulWords.f y x = some ((x * y) % 65536) := by
    unfold impl_MulWords.f; rw [wrapped_val y0 y1 x0 x1, wrap_mod, Int.mul_comm]; rfl
  have ww : impl_WrapWord.f (wrap64 (x - y)) = some ((x - y) % 65536) := by rw [wrapWord_val, wrap_mod]
  have are : impl_AreWords.f [x, y, (x + y) % 65536] = some true := by
    unfold impl_AreWords.f impl_AreWords_1.f
    simp [isWord_in x0 x1, isWord_in y0 y1, hs]
  simp only [add, add', less x0 x1 y0 y1, less y0 y1 x0 x1, hs, sub, sub2, mul, mul', ww, are, Option.bind_some, if_true]
  have hw : wrap64 ((if x < y then 1 else 0) + (if y < x then 1 else 0)) = if x = y then 0 else 1 := by
    unfold wrap64; split <;> split <;> split <;> omega
  rw [hw]
  by_cases h : x = y <;> simp [h]

end Go.Proofs.Ytomehbmijdjjfaa.Pure
