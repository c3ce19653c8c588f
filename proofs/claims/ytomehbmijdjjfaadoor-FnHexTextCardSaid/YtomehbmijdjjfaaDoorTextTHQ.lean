/- A draw of a text. No condition but a length that fits. -/
import Derived.Test.YtomehbmijdjjfaaDoorLongTHQ
import Derived.Test.YtomehbmijdjjfaaDoorHQ3
set_option linter.unusedVariables false
set_option linter.unusedSimpArgs false
namespace Go.Proofs.YtomehbmijdjjfaaDoor.HQ
open Go Go.RowKit Go.Proofs.YtomehbmijdjjfaaDoorW.PrintWords Go.Proofs.YtomehbmijdjjfaaDoorW.PrintLast Go.Proofs.YtomehbmijdjjfaaDoor.Aid

theorem text_ok {b : List Int} (hb : b.length ≤ 140737488351232) {i h : Int} (hi : Rok b i) (n : Nat) (hn : n ≤ 5000) : ∃ (s : ByteArray) (i' h' : Int), Ev (fun k => spec_l01Text.f k b i h (n : Int)) (s, i', h') := by
  have hl := loop_ev (fun k j (s : List Int × Int × Int) => spec_l01Text.l0 k (n : Int) s.1 (j : Int) b s.2.1 s.2.2) n (fun j s => s.1.length = j ∧ Rok b s.2.1) (fun _ => True)
    (fun j s hj hI => Or.inl (by
      obtain ⟨hs, hi⟩ := hI
      obtain ⟨x, i', h', e, _, _, hi'⟩ := byte_ok (h := s.2.2) hb hi
      refine ⟨(s.1 ++ [x % 256], i', h'), ⟨by simp [hs], hi'⟩, 0, fun k _ => ?_⟩
      simp only [spec_l01Text.l0]
      rw [if_pos (by omega), e, Option.bind_some, if_pos (by omega), wrap_succ hj (by omega)]))
    (fun s hI => ⟨(strOfNums s.1, s.2.1, s.2.2), trivial, 0, fun k _ => by
      simp only [spec_l01Text.l0]
      rw [if_neg (by omega)]⟩) 0 ([], i, h) (Nat.zero_le _) ⟨rfl, hi⟩
  obtain ⟨⟨s, i', h'⟩, _, K, hK⟩ := hl
  refine ⟨s, i', h', K + 2, fun k hk => ?_⟩
  obtain ⟨k, rfl⟩ : ∃ j, k = j + 1 := ⟨k - 1, by omega⟩
  show spec_l01Text.f (k + 1) b i h (n : Int) = some _
  unfold spec_l01Text.f
  rw [if_neg (by omega)]
  simp only [spec_l01Text.j0, Option.bind_some]
  exact hK k (by omega)
end Go.Proofs.YtomehbmijdjjfaaDoor.HQ
