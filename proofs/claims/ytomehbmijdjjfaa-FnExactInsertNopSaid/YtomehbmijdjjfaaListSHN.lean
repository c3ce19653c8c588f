/- What the laws' own loops over rows of instructions tell: a copy, whether two rows are equal, how much is left. No condition but lengths that fit. -/
import Derived.Test.YtomehbmijdjjfaaLoopAid
import Derived.Test.YtomehbmijdjjfaaHN1
set_option linter.unusedVariables false
set_option linter.unusedSimpArgs false
namespace Go.Proofs.Ytomehbmijdjjfaa.HN
open Go Go.RowKit Go.Proofs.YtomehbmijdjjfaaW.PrintWords Go.Proofs.YtomehbmijdjjfaaW.PrintLast Go.Proofs.Ytomehbmijdjjfaa.Aid

def conv (x : S50) : S52 := ⟨x.f0, x.f1, x.f2, x.f3⟩
theorem rdL_at {l : List S50} {n : Nat} (h : n < l.length) : l[n]? = some (rd_T50 l (n : Int)) := by
  simp [rd_T50, List.getD_eq_getElem?_getD, h]
theorem rdT_at {l : List S52} {n : Nat} (h : n < l.length) : l[n]? = some (rd_T52 l (n : Int)) := by
  simp [rd_T52, List.getD_eq_getElem?_getD, h]
theorem S52.ext_of {x y : S52} (h0 : x.f0 = y.f0) (h1 : x.f1 = y.f1) (h2 : x.f2 = y.f2) (h3 : x.f3 = y.f3) : x = y := by
  cases x; cases y; simp_all
theorem szInsS_small (l : List S50) (m : Int) (h0 : 0 ≤ m) (h1 : m ≤ 1048576) (hl : l.length ≤ 70368744177664) : laws_szInsS.f l m = some (if (l.length : Int) ≤ m then m - l.length else -1) := by
  unfold laws_szInsS.f
  rw [wrap_id (by omega) (by omega)]
  by_cases h : (l.length : Int) ≤ m
  · rw [if_neg (by omega), if_pos h]
  · rw [if_pos (by omega), if_neg h]

theorem toInsS_ev (l : List S50) (hl : l.length ≤ 1048576) : Ev (fun k => laws_toInsS.f k l) (l.map conv) := by
  have h := loop_to (fun k n (s : List S52) => laws_toInsS.l0 k l s (n : Int)) l.length (fun n s => s.length = (l.map conv).length ∧ ∀ j, j < n → s[j]? = (l.map conv)[j]?) (l.map conv)
    (fun n s hn hI => Or.inl ⟨s.set n (conv (rd_T50 l (n : Int))), set_upto hI.1 (by simpa using hn) hI.2 (by rw [List.getElem?_map, rdL_at hn]; rfl), 0, fun k _ => by
      simp only [laws_toInsS.l0]
      have hs := hI.1
      rw [List.length_map] at hs
      rw [if_pos (by omega), if_pos (by omega)]
      unfold laws_toIns.f
      rw [Option.bind_some, if_pos (by omega), wrap_succ hn (by omega), Int.toNat_natCast]
      rfl⟩)
    (fun s hI => ⟨0, fun k _ => by
      simp only [laws_toInsS.l0]
      rw [if_neg (by omega), all_upto hI.1 (fun j hj => hI.2 j (by simpa using hj))]⟩) 0 (List.replicate l.length z52) (Nat.zero_le _) ⟨by simp, fun j hj => absurd hj (Nat.not_lt_zero _)⟩
  refine Ev.congr (fun k => ?_) h
  unfold laws_toInsS.f
  rw [if_pos (by omega), if_pos (by omega)]
  simp

open Classical in
theorem eqIns_val (x y : S52) : laws_eqIns.f x.f0 x.f1 x.f2 x.f3 y.f0 y.f1 y.f2 y.f3 = some (decide (x = y)) := by
  unfold laws_eqIns.f
  by_cases h0 : x.f0 = y.f0
  · by_cases h1 : x.f1 = y.f1
    · by_cases h2 : x.f2 = y.f2
      · by_cases h3 : x.f3 = y.f3
        · have := S52.ext_of h0 h1 h2 h3
          simp [this]
        · have : x ≠ y := fun h => h3 (by rw [h])
          simp [h0, h1, h2, h3, this]
      · have : x ≠ y := fun h => h2 (by rw [h])
        simp [h0, h1, h2, this]
    · have : x ≠ y := fun h => h1 (by rw [h])
      simp [h0, h1, this]
  · have : x ≠ y := fun h => h0 (by rw [h])
    simp [h0, this]
open Classical in
theorem eqInsS_ev (a b : List S52) (hl : a.length ≤ 1048576) : Ev (fun k => laws_eqInsS.f k a b) (decide (a = b)) := by
  by_cases hlen : a.length = b.length
  · have h := loop_to (fun k n (_ : Unit) => laws_eqInsS.l0 k a b (n : Int)) a.length (fun n _ => ∀ j, j < n → a[j]? = b[j]?) (decide (a = b))
      (fun n s hn hI => by
        by_cases e : rd_T52 a (n : Int) = rd_T52 b (n : Int)
        · refine Or.inl ⟨(), fun j hj => ?_, 0, fun k _ => ?_⟩
          · by_cases hjn : j = n
            · subst hjn; rw [rdT_at hn, rdT_at (by omega), e]
            · exact hI j (by omega)
          · simp only [laws_eqInsS.l0]
            rw [if_pos (by omega), if_pos (by omega), if_pos (by omega), eqIns_val, Option.bind_some, if_pos (by simpa using e), wrap_succ hn (by omega)]
        · refine Or.inr ⟨0, fun k _ => ?_⟩
          simp only [laws_eqInsS.l0]
          rw [if_pos (by omega), if_pos (by omega), if_pos (by omega), eqIns_val, Option.bind_some, if_neg (by simpa using e)]
          have : a ≠ b := fun h => e (by rw [h])
          simp [this])
      (fun s hI => ⟨0, fun k _ => by
        simp only [laws_eqInsS.l0]
        rw [if_neg (by omega)]
        have : a = b := all_upto hlen (fun j hj => hI j (by omega))
        simp [this]⟩) 0 () (Nat.zero_le _) (fun j hj => absurd hj (Nat.not_lt_zero _))
    refine Ev.congr (fun k => ?_) h
    unfold laws_eqInsS.f
    rw [if_pos (by omega)]
    rfl
  · have : a ≠ b := fun h => hlen (by rw [h])
    refine Ev.congr (fun k => ?_) (ev_some _)
    unfold laws_eqInsS.f
    rw [if_neg (by omega)]
    simp [this]
theorem eqInsS_same (a : List S52) (hl : a.length ≤ 1048576) : Ev (fun k => laws_eqInsS.f k a a) true := by
  have := eqInsS_ev a a hl
  simpa using this
end Go.Proofs.Ytomehbmijdjjfaa.HN
