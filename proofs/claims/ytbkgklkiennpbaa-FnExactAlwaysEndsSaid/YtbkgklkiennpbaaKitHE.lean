import Derived.Test.YtbkgklkiennpbaaBase
import Derived.Test.YtbkgklkiennpbaaHE1
import Derived.Test.YtbkgklkiennpbaaHE2
import Derived.Test.YtbkgklkiennpbaaHE9
import Derived.Test.YtbkgklkiennpbaaHE4
import Derived.Test.YtbkgklkiennpbaaHE10
import Derived.Test.YtbkgklkiennpbaaHE5
import Derived.Test.YtbkgklkiennpbaaHE6
import Derived.Test.YtbkgklkiennpbaaHE11
/- What the laws' own loops over rows of instructions tell: a copy, whether two rows are equal, how much is left. No condition but lengths that fit. -/
set_option linter.unusedVariables false
set_option linter.unusedSimpArgs false
namespace Go.Proofs.Ytbkgklkiennpbaa.HE
open Go Go.RowKit Go.Proofs.YtbkgklkiennpbaaW.PrintWords Go.Proofs.YtbkgklkiennpbaaW.PrintLast Go.Proofs.Ytbkgklkiennpbaa.Aid

def conv (x : S54) : S52 := ⟨x.f0, x.f1, x.f2, x.f3⟩
theorem rdL_at {l : List S54} {n : Nat} (h : n < l.length) : l[n]? = some (rd_T54 l (n : Int)) := by
  simp [rd_T54, List.getD_eq_getElem?_getD, h]
theorem rdT_at {l : List S52} {n : Nat} (h : n < l.length) : l[n]? = some (rd_T52 l (n : Int)) := by
  simp [rd_T52, List.getD_eq_getElem?_getD, h]
theorem S52.ext_of {x y : S52} (h0 : x.f0 = y.f0) (h1 : x.f1 = y.f1) (h2 : x.f2 = y.f2) (h3 : x.f3 = y.f3) : x = y := by
  cases x; cases y; simp_all
theorem szInsS_small (l : List S54) (m : Int) (h0 : 0 ≤ m) (h1 : m ≤ 1048576) (hl : l.length ≤ 70368744177664) : laws_szInsS.f l m = some (if (l.length : Int) ≤ m then m - l.length else -1) := by
  unfold laws_szInsS.f
  rw [wrap_id (by omega) (by omega)]
  by_cases h : (l.length : Int) ≤ m
  · rw [if_neg (by omega), if_pos h]
  · rw [if_pos (by omega), if_neg h]

theorem toInsS_ev (l : List S54) (hl : l.length ≤ 1048576) : Ev (fun k => laws_toInsS.f k l) (l.map conv) := by
  have h := loop_to (fun k n (s : List S52) => laws_toInsS.l0 k l s (n : Int)) l.length (fun n s => s.length = (l.map conv).length ∧ ∀ j, j < n → s[j]? = (l.map conv)[j]?) (l.map conv)
    (fun n s hn hI => Or.inl ⟨s.set n (conv (rd_T54 l (n : Int))), set_upto hI.1 (by simpa using hn) hI.2 (by rw [List.getElem?_map, rdL_at hn]; rfl), 0, fun k _ => by
      simp only [laws_toInsS.l0]
      have hs := hI.1
      rw [List.length_map] at hs
      rw [if_pos (by omega), if_pos (by omega)]
      unfold laws_toIns.f
      rw [Option.bind_some, if_pos (by omega), wrap_succ hn (by omega), Int.toNat_natCast]
      rfl⟩)
    (fun s hI => ⟨0, fun k _ => by
      simp only [laws_toInsS.l0]
      rw [if_neg (by omega), all_upto hI.1 (fun j hj => hI.2 j (by simpa using hj))]⟩) 0 (List.replicate l.length z52) (Nat.zero_le _) ⟨by simp, fun j hj => absurd hj (Nat.not_lt_zero _)⟩
  refine Ev.congr (fun k => ?_) h
  unfold laws_toInsS.f
  rw [if_pos (by omega), if_pos (by omega)]
  simp

open Classical in
theorem eqIns_val (x y : S52) : laws_eqIns.f x.f0 x.f1 x.f2 x.f3 y.f0 y.f1 y.f2 y.f3 = some (decide (x = y)) := by
  unfold laws_eqIns.f
  by_cases h0 : x.f0 = y.f0
  · by_cases h1 : x.f1 = y.f1
    · by_cases h2 : x.f2 = y.f2
      · by_cases h3 : x.f3 = y.f3
        · have := S52.ext_of h0 h1 h2 h3
          simp [this]
        · have : x ≠ y := fun h => h3 (by rw [h])
          simp [h0, h1, h2, h3, this]
      · have : x ≠ y := fun h => h2 (by rw [h])
        simp [h0, h1, h2, this]
    · have : x ≠ y := fun h => h1 (by rw [h])
      simp [h0, h1, this]
  · have : x ≠ y := fun h => h0 (by rw [h])
    simp [h0, this]
open Classical in
theorem eqInsS_ev (a b : List S52) (hl : a.length ≤ 1048576) : Ev (fun k => laws_eqInsS.f k a b) (decide (a = b)) := by
  by_cases hlen : a.length = b.length
  · have h := loop_to (fun k n (_ : Unit) => laws_eqInsS.l0 k a b (n : Int)) a.length (fun n _ => ∀ j, j < n → a[j]? = b[j]?) (decide (a = b))
      (fun n s hn hI => by
        by_cases e : rd_T52 a (n : Int) = rd_T52 b (n : Int)
        · refine Or.inl ⟨(), fun j hj => ?_, 0, fun k _ => ?_⟩
          · by_cases hjn : j = n
            · subst hjn; rw [rdT_at hn, rdT_at (by omega), e]
            · exact hI j (by omega)
          · simp only [laws_eqInsS.l0]
            rw [if_pos (by omega), if_pos (by omega), if_pos (by omega), eqIns_val, Option.bind_some, if_pos (by simpa using e), wrap_succ hn (by omega)]
        · refine Or.inr ⟨0, fun k _ => ?_⟩
          simp only [laws_eqInsS.l0]
          rw [if_pos (by omega), if_pos (by omega), if_pos (by omega), eqIns_val, Option.bind_some, if_neg (by simpa using e)]
          have : a ≠ b := fun h => e (by rw [h])
          simp [this])
      (fun s hI => ⟨0, fun k _ => by
        simp only [laws_eqInsS.l0]
        rw [if_neg (by omega)]
        have : a = b := all_upto hlen (fun j hj => hI j (by omega))
        simp [this]⟩) 0 () (Nat.zero_le _) (fun j hj => absurd hj (Nat.not_lt_zero _))
    refine Ev.congr (fun k => ?_) h
    unfold laws_eqInsS.f
    rw [if_pos (by omega)]
    rfl
  · have : a ≠ b := fun h => hlen (by rw [h])
    refine Ev.congr (fun k => ?_) (ev_some _)
    unfold laws_eqInsS.f
    rw [if_neg (by omega)]
    simp [this]
theorem eqInsS_same (a : List S52) (hl : a.length ≤ 1048576) : Ev (fun k => laws_eqInsS.f k a a) true := by
  have := eqInsS_ev a a hl
  simpa using this
end Go.Proofs.Ytbkgklkiennpbaa.HE
/- Whether an instruction is valid, as the program's table tells it. No condition. -/
set_option linter.unusedVariables false
set_option linter.unusedSimpArgs false
namespace Go.Proofs.Ytbkgklkiennpbaa.HE
open Go Go.RowKit Go.Proofs.YtbkgklkiennpbaaW.PrintWords Go.Proofs.YtbkgklkiennpbaaW.PrintLast Go.Proofs.Ytbkgklkiennpbaa.Aid

def inB (n lo hi : Int) : Bool := decide (lo ≤ n) && decide (n ≤ hi)
def insOkB (op a b c s : Int) : Bool :=
  inB s 0 32 && (if op = 0 ∨ op = 12 ∨ op = 16 then a == 0 && b == 0 && c == 0
    else if op = 1 then inB a 0 3 && inB b 0 65535 && c == 0
    else if op = 2 ∨ op = 13 ∨ op = 14 ∨ op = 15 then inB a 0 3 && inB b 0 3 && c == 0
    else if op = 8 then inB a 0 3 && b == 0 && c == 0
    else if op = 10 then inB a 0 3 && inB b 0 s && c == 0
    else if op = 11 then a == 0 && inB b 0 s && c == 0
    else if 3 ≤ op ∧ op ≤ 9 then inB a 0 3 && inB b 0 3 && inB c 0 3
    else false)
theorem within_val (a b c : Int) : impl_within.f a b c = some (inB a b c) := by
  unfold impl_within.f inB
  by_cases h : b ≤ a
  · rw [if_pos (show a ≥ b from h)]; simp [h]
  · rw [if_neg (show ¬ a ≥ b from h)]; simp [h]
theorem isReg_val (a : Int) : impl_isReg.f a = some (inB a 0 3) := by unfold impl_isReg.f; rw [within_val]; rfl
theorem isWord_val (a : Int) : impl_IsWord.f a = some (inB a 0 65535) := by unfold impl_IsWord.f; rw [within_val]; rfl
def fieldB (form n s : Int) : Bool := if form = 82 then inB n 0 3 else if form = 87 then inB n 0 65535 else if form = 84 then inB n 0 s else n == 0
theorem isField_val (form n s : Int) : impl_isField.f form n s = some (fieldB form n s) := by
  unfold impl_isField.f fieldB
  rw [isReg_val, isWord_val, within_val]
  by_cases h : form = 82
  · simp [h]
  · by_cases h1 : form = 87
    · simp [h1]
    · by_cases h2 : form = 84 <;> simp [h, h1, h2]
theorem form_val (op : Int) (x y z : UInt8) (f : ByteArray) (hf : impl_formOf.f op = some f) (he : f = ⟨#[x, y, z]⟩) (a b c s : Int) :
    impl_InsOk.f op a b c s = some (inB s 0 32 && (fieldB (x.toNat : Int) a s && (fieldB (y.toNat : Int) b s && fieldB (z.toNat : Int) c s))) := by
  subst he
  unfold impl_InsOk.f
  rw [hf, Option.bind_some, if_neg (by rw [toList_data]; simp), within_val, Option.bind_some]
  cases inB s 0 32
  · rfl
  · rw [if_pos rfl, if_pos (show (0 : Int) < (((⟨#[x, y, z]⟩ : ByteArray).size : Nat) : Int) from by show (0 : Int) < ((3 : Nat) : Int); decide), show bt ⟨#[x, y, z]⟩ 0 = (x.toNat : Int) from rfl, isField_val, Option.bind_some]
    cases fieldB (x.toNat : Int) a s
    · rfl
    · rw [if_pos rfl, if_pos (show (1 : Int) < (((⟨#[x, y, z]⟩ : ByteArray).size : Nat) : Int) from by show (1 : Int) < ((3 : Nat) : Int); decide), show bt ⟨#[x, y, z]⟩ 1 = (y.toNat : Int) from rfl, isField_val, Option.bind_some]
      cases fieldB (y.toNat : Int) b s
      · rfl
      · rw [if_pos rfl, if_pos (show (2 : Int) < (((⟨#[x, y, z]⟩ : ByteArray).size : Nat) : Int) from by show (2 : Int) < ((3 : Nat) : Int); decide), show bt ⟨#[x, y, z]⟩ 2 = (z.toNat : Int) from rfl, isField_val, Option.bind_some]
        rfl
theorem insOk_val (op a b c s : Int) : impl_InsOk.f op a b c s = some (insOkB op a b c s) := by
  by_cases h : 0 ≤ op ∧ op ≤ 16
  · have hc : op = 0 ∨ op = 1 ∨ op = 2 ∨ op = 3 ∨ op = 4 ∨ op = 5 ∨ op = 6 ∨ op = 7 ∨ op = 8 ∨ op = 9 ∨ op = 10 ∨ op = 11 ∨ op = 12 ∨ op = 13 ∨ op = 14 ∨ op = 15 ∨ op = 16 := by omega
    rcases hc with rfl | rfl | rfl | rfl | rfl | rfl | rfl | rfl | rfl | rfl | rfl | rfl | rfl | rfl | rfl | rfl | rfl <;>
      (rw [form_val _ _ _ _ _ rfl rfl]; simp [insOkB, fieldB, Bool.and_assoc])
  · have hf : impl_formOf.f op = some ⟨#[]⟩ := by
      unfold impl_formOf.f
      rw [within_val, show inB op 0 16 = false by unfold inB; simp; omega]
      rfl
    have h0 : ¬ (op = 0 ∨ op = 12 ∨ op = 16) := by omega
    have h1 : ¬ op = 1 := by omega
    have h2 : ¬ (op = 2 ∨ op = 13 ∨ op = 14 ∨ op = 15) := by omega
    have h3 : ¬ op = 8 := by omega
    have h4 : ¬ op = 10 := by omega
    have h5 : ¬ op = 11 := by omega
    have h6 : ¬ (3 ≤ op ∧ op ≤ 9) := by omega
    unfold impl_InsOk.f insOkB
    rw [hf, Option.bind_some, if_pos (by rw [toList_data]), if_neg h0, if_neg h1, if_neg h2, if_neg h3, if_neg h4, if_neg h5, if_neg h6]
    simp
end Go.Proofs.Ytbkgklkiennpbaa.HE
/- Whether an instruction is valid, as the reference's cases tell it. No condition. -/
set_option linter.unusedVariables false
set_option linter.unusedSimpArgs false
namespace Go.Proofs.Ytbkgklkiennpbaa.HE
open Go Go.RowKit Go.Proofs.YtbkgklkiennpbaaW.PrintWords Go.Proofs.YtbkgklkiennpbaaW.PrintLast Go.Proofs.Ytbkgklkiennpbaa.Aid
theorem l01In_val (a b c : Int) : spec_l01In.f a b c = some (inB a b c) := by
  unfold spec_l01In.f inB
  by_cases h : b ≤ a
  · rw [if_pos (show a ≥ b from h)]; simp [h]
  · rw [if_neg (show ¬ a ≥ b from h)]; simp [h]
theorem l04Reg_val (a : Int) : spec_l04Reg.f a = some (inB a 0 3) := by unfold spec_l04Reg.f; rw [l01In_val]; rfl
theorem specIsWord_val (a : Int) : spec_IsWord.f a = some (inB a 0 65535) := by unfold spec_IsWord.f; rw [l01In_val]; rfl
theorem specInsOk_val (op a b c s : Int) (k : Nat) : spec_InsOk.f (k + 2) op a b c s = some (insOkB op a b c s) := by
  unfold spec_InsOk.f insOkB
  rw [l01In_val, Option.bind_some]
  cases inB s 0 32
  · rfl
  · rw [if_pos rfl]
    simp only [spec_InsOk.j0, spec_InsOk.j1, l01In_val, l04Reg_val, specIsWord_val, Option.bind_some, Bool.true_and]
    by_cases e0 : op = 0
    · subst e0; by_cases ha : a = 0 <;> by_cases hb : b = 0 <;> simp [ha, hb]
    by_cases e12 : op = 12
    · subst e12; by_cases ha : a = 0 <;> by_cases hb : b = 0 <;> simp [ha, hb]
    by_cases e16 : op = 16
    · subst e16; by_cases ha : a = 0 <;> by_cases hb : b = 0 <;> simp [ha, hb]
    by_cases e1 : op = 1
    · subst e1; cases inB a 0 3 <;> cases inB b 0 65535 <;> simp
    by_cases e2 : op = 2
    · subst e2; cases inB a 0 3 <;> cases inB b 0 3 <;> simp
    by_cases e13 : op = 13
    · subst e13; cases inB a 0 3 <;> cases inB b 0 3 <;> simp
    by_cases e14 : op = 14
    · subst e14; cases inB a 0 3 <;> cases inB b 0 3 <;> simp
    by_cases e15 : op = 15
    · subst e15; cases inB a 0 3 <;> cases inB b 0 3 <;> simp
    by_cases e8 : op = 8
    · subst e8; by_cases hb : b = 0 <;> cases inB a 0 3 <;> simp [hb]
    by_cases e10 : op = 10
    · subst e10; cases inB a 0 3 <;> cases inB b 0 s <;> simp
    by_cases e11 : op = 11
    · subst e11; by_cases ha : a = 0 <;> cases inB b 0 s <;> simp [ha]
    by_cases h39 : 3 ≤ op ∧ op ≤ 9
    · have : inB op 3 9 = true := by unfold inB; simp; omega
      cases inB a 0 3 <;> cases inB b 0 3 <;> simp [e0, e12, e16, e1, e2, e13, e14, e15, e8, e10, e11, this, h39]
    · have : inB op 3 9 = false := by unfold inB; simp; omega
      simp [e0, e12, e16, e1, e2, e13, e14, e15, e8, e10, e11, this, h39]
end Go.Proofs.Ytbkgklkiennpbaa.HE
/- Whether a program is valid, as the program tells it. No condition. -/
set_option linter.unusedVariables false
set_option linter.unusedSimpArgs false
namespace Go.Proofs.Ytbkgklkiennpbaa.HE
open Go Go.RowKit Go.Proofs.YtbkgklkiennpbaaW.PrintWords Go.Proofs.YtbkgklkiennpbaaW.PrintLast Go.Proofs.Ytbkgklkiennpbaa.Aid

def okIns (m : Nat) (x : S52) : Bool := insOkB x.f0 x.f1 x.f2 x.f3 (m : Int)
def progB (l : List S52) : Bool := decide (l.length ≤ 32) && l.all (okIns l.length)
theorem rdP_at {l : List S52} {n : Nat} (h : n < l.length) : l[n]? = some (rd_T52 l (n : Int)) := by
  simp [rd_T52, List.getD_eq_getElem?_getD, h]
theorem progOk_val (l : List S52) : impl_ProgramOk.f l = some (progB l) := by
  unfold impl_ProgramOk.f progB
  by_cases h : l.length ≤ 32
  · have hall : l.all (fun x => (impl_InsOk.f x.f0 x.f1 x.f2 x.f3 (l.length : Int)).isSome) = true := by
      rw [List.all_eq_true]; intro x _; rw [insOk_val]; rfl
    rw [if_pos h, if_pos hall]
    simp only [h, decide_true, Bool.true_and]
    congr 1
    rw [List.any_eq_not_all_not, Bool.not_not]
    congr 1
    funext x
    unfold impl_ProgramOk.bad okIns
    rw [insOk_val]
    cases insOkB x.f0 x.f1 x.f2 x.f3 (l.length : Int) <;> rfl
  · rw [if_neg h]
    simp [h]
end Go.Proofs.Ytbkgklkiennpbaa.HE
/- Whether a program is valid, as the reference tells it. No condition but a length that fits. -/
set_option linter.unusedVariables false
set_option linter.unusedSimpArgs false
namespace Go.Proofs.Ytbkgklkiennpbaa.HE
open Go Go.RowKit Go.Proofs.YtbkgklkiennpbaaW.PrintWords Go.Proofs.YtbkgklkiennpbaaW.PrintLast Go.Proofs.Ytbkgklkiennpbaa.Aid
theorem specProgOk_ev (l : List S52) (hl : l.length ≤ 1048576) : Ev (fun k => spec_ProgramOk.f k l) (progB l) := by
  have h := loop_to (fun k n (_ : Unit) => spec_ProgramOk.l0 k l (n : Int)) l.length (fun n _ => ∀ j : Nat, j < n → okIns l.length (rd_T52 l (j : Int)) = true) (progB l)
    (fun n s hn hI => by
      cases hb : okIns l.length (rd_T52 l (n : Int)) with
      | true =>
        refine Or.inl ⟨(), fun j hj => ?_, 2, fun k hk => ?_⟩
        · by_cases e : j = n
          · subst e; exact hb
          · exact hI j (by omega)
        · obtain ⟨k, rfl⟩ : ∃ m, k = m + 2 := ⟨k - 2, by omega⟩
          conv => lhs; unfold spec_ProgramOk.l0
          rw [if_pos (by omega), if_pos (by omega), specInsOk_val, Option.bind_some, if_pos (by exact hb), wrap_succ hn (by omega)]
      | false =>
        refine Or.inr ⟨2, fun k hk => ?_⟩
        obtain ⟨k, rfl⟩ : ∃ m, k = m + 2 := ⟨k - 2, by omega⟩
        unfold spec_ProgramOk.l0
        have hb' : insOkB (rd_T52 l (n : Int)).f0 (rd_T52 l (n : Int)).f1 (rd_T52 l (n : Int)).f2 (rd_T52 l (n : Int)).f3 (l.length : Int) = false := hb
        rw [if_pos (by omega), if_pos (by omega), specInsOk_val, Option.bind_some, if_neg (by rw [hb']; decide)]
        have : l.all (okIns l.length) = false := by
          rw [List.all_eq_false]
          exact ⟨_, List.mem_of_getElem? (rdP_at hn), by rw [hb]; decide⟩
        unfold progB
        rw [this, Bool.and_false])
    (fun s hI => ⟨0, fun k _ => by
      unfold spec_ProgramOk.l0
      rw [if_neg (by omega)]
      have : l.all (okIns l.length) = true := by
        rw [List.all_eq_true]
        intro x hx
        obtain ⟨j, hj, rfl⟩ := List.mem_iff_getElem.1 hx
        have h1 := hI j hj
        have h2 := rdP_at hj
        rw [List.getElem?_eq_getElem hj] at h2
        rw [Option.some.inj h2]
        exact h1
      unfold progB
      rw [this, Bool.and_true]
      congr 1
      simp only [decide_eq_decide]
      omega⟩) 0 () (Nat.zero_le _) (fun j hj => absurd hj (Nat.not_lt_zero _))
  exact Ev.congr (fun k => rfl) h
end Go.Proofs.Ytbkgklkiennpbaa.HE
/- The reference's insertion into an ascending list. No condition but a length that fits. -/
set_option linter.unusedVariables false
set_option linter.unusedSimpArgs false
namespace Go.Proofs.Ytbkgklkiennpbaa.HE
open Go Go.RowKit Go.Proofs.YtbkgklkiennpbaaW.PrintWords Go.Proofs.YtbkgklkiennpbaaW.PrintLast Go.Proofs.Ytbkgklkiennpbaa.Aid

theorem rd_get {l : List Int} {n : Nat} (h : n < l.length) : rd l (n : Int) = l[n] := by
  simp [rd, List.getD_eq_getElem?_getD, h]
theorem ins_asc {l : List Int} (hl : Asc l) (n : Int) (m : Nat) (hm : m ≤ l.length) (hup : ∀ j (h : j < l.length), m ≤ j → n < l[j]) (hdn : ∀ j (h : j < l.length), j < m → l[j] < n) :
    Asc (l.take m ++ [n] ++ l.drop m) ∧ ∀ x, x ∈ l.take m ++ [n] ++ l.drop m ↔ x ∈ l ∨ x = n := by
  refine ⟨?_, fun x => ?_⟩
  · rw [List.append_assoc]
    show (l.take m ++ (n :: l.drop m)).Pairwise (· < ·)
    refine List.pairwise_append.2 ⟨hl.sublist (List.take_sublist _ _), List.pairwise_cons.2 ⟨fun y hy => ?_, hl.sublist (List.drop_sublist _ _)⟩, fun a ha b hb => ?_⟩
    · obtain ⟨j, hj, rfl⟩ := List.mem_iff_getElem.1 hy
      rw [List.getElem_drop]
      rw [List.length_drop] at hj
      exact hup _ _ (by omega)
    · obtain ⟨i, hi, rfl⟩ := List.mem_iff_getElem.1 ha
      rw [List.length_take] at hi
      rw [List.getElem_take]
      have h1 := hdn i (by omega) (by omega)
      rcases List.mem_cons.1 hb with e | hb
      · rw [e]; exact h1
      · obtain ⟨j, hj, rfl⟩ := List.mem_iff_getElem.1 hb
        rw [List.getElem_drop]
        rw [List.length_drop] at hj
        have h2 := hup (m + j) (by omega) (by omega)
        omega
  · have e : x ∈ l ↔ x ∈ l.take m ∨ x ∈ l.drop m := by
      rw [← List.mem_append, List.take_append_drop]
    rw [e, List.mem_append, List.mem_append, List.mem_singleton]
    constructor
    · rintro ((h | h) | h)
      · exact .inl (.inl h)
      · exact .inr h
      · exact .inl (.inr h)
    · rintro ((h | h) | h)
      · exact .inl (.inl h)
      · exact .inr h
      · exact .inl (.inr h)
theorem put_ev (l : List Int) (hl : Asc l) (hlen : l.length ≤ 1000) (n : Int) : ∃ r, (Asc r ∧ (∀ x, x ∈ r ↔ x ∈ l ∨ x = n) ∧ r.length ≤ l.length + 1) ∧ Ev (fun k => spec_l04Put.f k l n) r := by
  have key : ∀ m, m ≤ l.length → (∀ j (h : j < l.length), m ≤ j → n < l[j]) → ∃ r, (Asc r ∧ (∀ x, x ∈ r ↔ x ∈ l ∨ x = n) ∧ r.length ≤ l.length + 1) ∧ Ev (fun k => spec_l04Put.l0 k l n (m : Int)) r := by
    intro m
    induction m with
    | zero =>
      intro _ hup
      obtain ⟨h1, h2⟩ := ins_asc hl n 0 (by omega) (fun j h _ => hup j h (by omega)) (fun j h h' => by omega)
      refine ⟨_, ⟨h1, h2, by simp⟩, 1, fun k hk => ?_⟩
      obtain ⟨k, rfl⟩ : ∃ m, k = m + 1 := ⟨k - 1, by omega⟩
      simp only [spec_l04Put.l0]
      rw [if_neg (by omega), Option.bind_some, if_pos (by omega), if_pos (by omega)]
      simp only [Option.bind_some, List.nil_append, List.length_nil, Int.toNat_natCast]
      rw [if_pos (by simp), if_pos (by simp), if_pos (by simp <;> omega)]
    | succ m ih =>
      intro hm hup
      have hw : wrap64 (((m + 1 : Nat) : Int) - 1) = (m : Int) := by rw [wrap_id (by omega) (by omega)]; omega
      have hr := rd_get (l := l) (n := m) (by omega)
      by_cases h1 : rd l (m : Int) > n
      · obtain ⟨r, hr', hev⟩ := ih (by omega) (fun j h hj => by
          by_cases e : j = m
          · subst e; rw [← hr]; exact h1
          · exact hup j h (by omega))
        refine ⟨r, hr', Ev.step (fun k => ?_) hev⟩
        simp only [spec_l04Put.l0]
        rw [if_pos (by omega), hw, if_pos (by omega), if_pos (by omega), if_pos h1]
      · by_cases h2 : rd l (m : Int) = n
        · refine ⟨l, ⟨hl, fun x => ⟨.inl, ?_⟩, by omega⟩, 1, fun k hk => ?_⟩
          · rintro (h | h)
            · exact h
            · rw [h, ← h2, hr]; exact List.getElem_mem _
          · obtain ⟨k, rfl⟩ : ∃ m, k = m + 1 := ⟨k - 1, by omega⟩
            simp only [spec_l04Put.l0]
            rw [if_pos (by omega), hw, if_pos (by omega), if_pos (by omega), if_neg h1, if_pos h2]
        · obtain ⟨g1, g2⟩ := ins_asc hl n (m + 1) hm hup (fun j h hj => by
            by_cases e : j = m
            · subst e; rw [← hr]; omega
            · have := List.pairwise_iff_getElem.1 hl j m h (by omega) (by omega)
              omega)
          refine ⟨_, ⟨g1, g2, by simp; omega⟩, 1, fun k hk => ?_⟩
          obtain ⟨k, rfl⟩ : ∃ m, k = m + 1 := ⟨k - 1, by omega⟩
          simp only [spec_l04Put.l0]
          rw [if_pos (by omega), hw, if_pos (by omega), if_pos (by omega), if_neg h1, if_neg h2, Option.bind_some, if_pos (by omega), if_pos (by omega)]
          simp only [Option.bind_some, List.nil_append, List.length_nil, Int.toNat_natCast]
          rw [if_pos (by simp <;> omega), if_pos (by simp <;> omega), if_pos (by simp <;> omega)]
  obtain ⟨r, h, hev⟩ := key l.length (Nat.le_refl _) (fun j h h' => by omega)
  exact ⟨r, h, hev⟩
end Go.Proofs.Ytbkgklkiennpbaa.HE
/- The successors of a node of a valid program, as the program tells them. -/
set_option linter.unusedVariables false
set_option linter.unusedSimpArgs false
namespace Go.Proofs.Ytbkgklkiennpbaa.HE
open Go Go.RowKit Go.Proofs.YtbkgklkiennpbaaW.PrintWords Go.Proofs.YtbkgklkiennpbaaW.PrintLast Go.Proofs.Ytbkgklkiennpbaa.Aid

def nxt (l : List S52) (a : Int) : List Int :=
  if a = (l.length : Int) then [] else if (rd_T52 l a).f0 = 12 then [(l.length : Int)] else if (rd_T52 l a).f0 = 11 then [(rd_T52 l a).f2]
  else if (rd_T52 l a).f0 = 10 then srt [(rd_T52 l a).f2, a + 1] else [a + 1]
theorem srt_pair (x y : Int) : srt [x, y] = if x = y then [x] else if x < y then [x, y] else [y, x] := by
  by_cases h : x = y
  · subst h
    rw [if_pos rfl]
    exact srt_eq (by simp [Asc]) (by simp)
  · rw [if_neg h]
    by_cases h2 : x < y
    · rw [if_pos h2]
      exact srt_eq (by simp [Asc, h2]) (by simp)
    · rw [if_neg h2]
      have h3 : y < x := by omega
      refine srt_eq (by simp [Asc, h3]) (fun z => ?_)
      simp only [List.mem_cons, List.not_mem_nil, or_false]
      exact Or.comm
theorem next_val (l : List S52) (hl : l.length ≤ 1048576) {a : Int} (h0 : 0 ≤ a) (h1 : a ≤ (l.length : Int)) : impl_next.f l a = some (nxt l a) := by
  unfold impl_next.f nxt
  by_cases e : a = (l.length : Int)
  · rw [if_pos e, if_pos e]
  · rw [if_neg e, if_neg e, if_pos h0, if_pos (by omega), wrap_id (n := a + 1) (by omega) (by omega)]
    by_cases e12 : (rd_T52 l a).f0 = 12
    · rw [if_pos e12, if_pos e12]
    · rw [if_neg e12, if_neg e12]
      by_cases e11 : (rd_T52 l a).f0 = 11
      · rw [if_pos e11, if_pos e11]
      · rw [if_neg e11, if_neg e11]
        by_cases e10 : (rd_T52 l a).f0 = 10
        · rw [if_pos e10, if_pos e10]
          unfold slices_Sort_int_int.f slices_Compact_int_int.f
          rw [if_pos (by simp)]
          rfl
        · rw [if_neg e10, if_neg e10]
theorem prog_small {l : List S52} (h : progB l = true) : l.length ≤ 32 := by
  unfold progB at h
  rw [Bool.and_eq_true] at h
  simpa using h.1
theorem prog_ins {l : List S52} (h : progB l = true) {a : Int} (h0 : 0 ≤ a) (h1 : a < (l.length : Int)) : insOkB (rd_T52 l a).f0 (rd_T52 l a).f1 (rd_T52 l a).f2 (rd_T52 l a).f3 (l.length : Int) = true := by
  unfold progB at h
  rw [Bool.and_eq_true, List.all_eq_true] at h
  obtain ⟨n, rfl⟩ := Int.eq_ofNat_of_zero_le h0
  exact h.2 _ (List.mem_of_getElem? (rdP_at (by omega)))
theorem ins_target {op a b c s : Int} (h : insOkB op a b c s = true) (ho : op = 10 ∨ op = 11) : 0 ≤ b ∧ b ≤ s := by
  rcases ho with rfl | rfl <;> (simp [insOkB, inB] at h; omega)
theorem nxt_ok {l : List S52} (h : progB l = true) (x : Int) (h0 : 0 ≤ x) (h1 : x ≤ (l.length : Int)) : (∀ y ∈ nxt l x, 0 ≤ y ∧ y ≤ (l.length : Int)) ∧ (nxt l x).length ≤ 2 := by
  unfold nxt
  by_cases e : x = (l.length : Int)
  · rw [if_pos e]; simp
  · have hi := prog_ins h h0 (by omega)
    rw [if_neg e]
    by_cases e12 : (rd_T52 l x).f0 = 12
    · rw [if_pos e12]; simp
    · rw [if_neg e12]
      by_cases e11 : (rd_T52 l x).f0 = 11
      · rw [if_pos e11]; have := ins_target hi (.inr e11); simpa using this
      · rw [if_neg e11]
        by_cases e10 : (rd_T52 l x).f0 = 10
        · rw [if_pos e10]
          have ht := ins_target hi (.inl e10)
          refine ⟨fun y hy => ?_, Nat.le_trans (srt_len _) (by simp)⟩
          have := ((srt_spec _).2 y).1 hy
          simp only [List.mem_cons, List.not_mem_nil, or_false] at this
          rcases this with rfl | rfl
          · exact ht
          · omega
        · rw [if_neg e10]
          refine ⟨fun y hy => ?_, by simp⟩
          simp only [List.mem_cons, List.not_mem_nil, or_false] at hy
          subst hy
          omega
theorem nxt_exit (l : List S52) : nxt l (l.length : Int) = [] := by unfold nxt; rw [if_pos rfl]
theorem nxt_ne {l : List S52} {x : Int} (h1 : x < (l.length : Int)) : nxt l x ≠ [] := by
  unfold nxt
  rw [if_neg (by omega), srt_pair]
  repeat' split
  all_goals simp
theorem isNode_val (l : List S52) (a : Int) : impl_isNode.f l a = some (progB l && inB a 0 (l.length : Int)) := by
  unfold impl_isNode.f
  rw [progOk_val, Option.bind_some]
  cases progB l
  · rfl
  · rw [if_pos rfl, within_val]; rfl
theorem inB_iff {a lo hi : Int} : inB a lo hi = true ↔ lo ≤ a ∧ a ≤ hi := by unfold inB; simp
theorem inB_not {a lo hi : Int} : inB a lo hi = false ↔ ¬ (lo ≤ a ∧ a ≤ hi) := by rw [← inB_iff]; simp
end Go.Proofs.Ytbkgklkiennpbaa.HE
/- The successors of a node of a valid program, as the reference tells them. -/
set_option linter.unusedVariables false
set_option linter.unusedSimpArgs false
namespace Go.Proofs.Ytbkgklkiennpbaa.HE
open Go Go.RowKit Go.Proofs.YtbkgklkiennpbaaW.PrintWords Go.Proofs.YtbkgklkiennpbaaW.PrintLast Go.Proofs.Ytbkgklkiennpbaa.Aid

theorem specNext_ev (l : List S52) (hl : l.length ≤ 1048576) {a : Int} (h0 : 0 ≤ a) (h1 : a ≤ (l.length : Int)) : Ev (fun k => spec_l07Next.f k l a) (nxt l a) := by
  obtain ⟨r, ⟨hr, hm, _⟩, K, hK⟩ := put_ev [a + 1] (by simp [Asc]) (by simp) (rd_T52 l a).f2
  refine ⟨K, fun k hk => ?_⟩
  have hk' : spec_l04Put.f k [a + 1] (rd_T52 l a).f2 = some r := hK k hk
  show spec_l07Next.f k l a = some _
  unfold spec_l07Next.f nxt
  by_cases e : a = (l.length : Int)
  · rw [if_pos e, if_pos e]
  · rw [if_neg e, if_neg e, if_pos h0, if_pos (by omega), wrap_id (n := a + 1) (by omega) (by omega), hk', Option.bind_some]
    have : srt [(rd_T52 l a).f2, a + 1] = r := srt_eq hr (fun x => by rw [hm]; simp only [List.mem_cons, List.not_mem_nil, or_false]; exact Or.comm)
    rw [this]
    by_cases e12 : (rd_T52 l a).f0 = 12
    · rw [if_pos e12, if_pos e12]
    · rw [if_neg e12, if_neg e12]
      by_cases e11 : (rd_T52 l a).f0 = 11
      · rw [if_pos e11, if_pos e11]
      · rw [if_neg e11, if_neg e11]
        by_cases e10 : (rd_T52 l a).f0 = 10
        · rw [if_pos e10, if_pos e10]
        · rw [if_neg e10, if_neg e10]
end Go.Proofs.Ytbkgklkiennpbaa.HE
/- What is reached, as the program walks it. -/
set_option linter.unusedVariables false
set_option linter.unusedSimpArgs false
namespace Go.Proofs.Ytbkgklkiennpbaa.HE
open Go Go.RowKit Go.Proofs.YtbkgklkiennpbaaW.PrintWords Go.Proofs.YtbkgklkiennpbaaW.PrintLast Go.Proofs.Ytbkgklkiennpbaa.Aid

theorem reached_ev {l : List S52} (hp : progB l = true) (S : List Int) (w : Int) (hS : ∀ x ∈ S, 0 ≤ x ∧ x ≤ (l.length : Int)) (hSl : S.length ≤ 1000) : Ev (fun k => impl_reached.f k l S w) (rset (nxt l) w S l.length) := by
  have hs := prog_small hp
  have h := bfs_ev (fun k m q => impl_reached.l0 k l w m q) l.length (nxt l) w S (fun _ => True) (fun m => m = rset (nxt l) w S l.length) hS (nxt_ok hp)
    (fun m x q hm h0 h1 hsk => ⟨0, fun k _ => by
      have hl0 : 0 < (x :: q).length := by simp
      have hr : rd (x :: q) 0 = x := rfl
      simp only [impl_reached.l0]
      rw [if_pos (by omega), if_pos (by omega), if_pos (by omega), hr]
      simp only [Option.bind_some]
      rcases hsk with h | h
      · rw [if_pos h]; rfl
      · by_cases e : x = w
        · rw [if_pos e]; rfl
        · rw [if_neg e, if_pos h0, if_pos (by omega), if_pos h]; rfl⟩)
    (fun m x q hm h0 h1 hw hmx hq _ => .inl ⟨trivial, 0, fun k _ => by
      have hl0 : 0 < (x :: q).length := by simp
      have hr : rd (x :: q) 0 = x := rfl
      have hn2 := (nxt_ok hp x h0 h1).2
      have hd : (x :: q).drop (1 : Int).toNat = q := rfl
      simp only [impl_reached.l0]
      rw [if_pos (by omega), if_pos (by omega), if_pos (by omega), hr, hd]
      simp only [Option.bind_some]
      rw [if_neg hw, if_pos h0, if_pos (by omega), if_neg (by rw [hmx]; decide), next_val l (by omega) h0 h1, Option.bind_some, if_pos (by omega)]⟩)
    (fun m hm hR _ => ⟨m, rset_of hS (nxt_ok hp) hm hR, 0, fun k _ => by
      simp only [impl_reached.l0]
      rw [if_neg (by simp)]⟩)
  obtain ⟨r, rfl, h⟩ := h
  refine Ev.congr (fun k => ?_) h
  have hw : wrap64 ((l.length : Int) + 1) = ((l.length + 1 : Nat) : Int) := wrap_succ (N := l.length + 1) (by omega) (by omega)
  unfold impl_reached.f slices_Clone_int_int.f
  rw [hw, Int.toNat_natCast, if_pos (by omega), if_pos (by omega), if_pos (by omega)]
  rfl
end Go.Proofs.Ytbkgklkiennpbaa.HE
/- What is reached, as the reference walks it. -/
set_option linter.unusedVariables false
set_option linter.unusedSimpArgs false
namespace Go.Proofs.Ytbkgklkiennpbaa.HE
open Go Go.RowKit Go.Proofs.YtbkgklkiennpbaaW.PrintWords Go.Proofs.YtbkgklkiennpbaaW.PrintLast Go.Proofs.Ytbkgklkiennpbaa.Aid

theorem specReach_ev {l : List S52} (hp : progB l = true) (S : List Int) (hS : ∀ x ∈ S, 0 ≤ x ∧ x ≤ (l.length : Int)) (hSl : S.length ≤ 1000) : Ev (fun k => spec_l07Reach.f k l S) (rset (nxt l) (-1) S l.length) := by
  have hs := prog_small hp
  have h := bfs_ev (fun k m q => spec_l07Reach.l0 k l m q) l.length (nxt l) (-1) S (fun _ => True) (fun m => m = rset (nxt l) (-1) S l.length) hS (nxt_ok hp)
    (fun m x q hm h0 h1 hsk => ⟨0, fun k _ => by
      have hl0 : 0 < (x :: q).length := by simp
      have hr : rd (x :: q) 0 = x := rfl
      simp only [spec_l07Reach.l0]
      rw [if_pos (by omega), if_pos (by omega), if_pos (by omega), hr]
      simp only [Option.bind_some]
      rcases hsk with h | h
      · omega
      · rw [if_pos h0, if_pos (by omega), if_pos h]; rfl⟩)
    (fun m x q hm h0 h1 hw hmx hq _ => .inl ⟨trivial, by
      obtain ⟨K, hK⟩ := specNext_ev l (by omega) h0 h1
      refine ⟨K, fun k hk => ?_⟩
      have hk' : spec_l07Next.f k l x = some (nxt l x) := hK k hk
      have hl0 : 0 < (x :: q).length := by simp
      have hr : rd (x :: q) 0 = x := rfl
      have hn2 := (nxt_ok hp x h0 h1).2
      have hd : (x :: q).drop (1 : Int).toNat = q := rfl
      simp only [spec_l07Reach.l0]
      rw [if_pos (by omega), if_pos (by omega), if_pos (by omega), hr, hd]
      simp only [Option.bind_some]
      rw [if_pos h0, if_pos (by omega), if_neg (by rw [hmx]; decide), hk', Option.bind_some, if_pos (by omega)]⟩)
    (fun m hm hR _ => ⟨m, rset_of hS (nxt_ok hp) hm hR, 0, fun k _ => by
      simp only [spec_l07Reach.l0]
      rw [if_neg (by simp)]⟩)
  obtain ⟨r, rfl, h⟩ := h
  refine Ev.congr (fun k => ?_) h
  have hw : wrap64 ((l.length : Int) + 1) = ((l.length + 1 : Nat) : Int) := wrap_succ (N := l.length + 1) (by omega) (by omega)
  unfold spec_l07Reach.f
  rw [hw, Int.toNat_natCast, if_pos (by omega), if_pos (by omega), Option.bind_some, if_pos (by simp; omega)]
  rfl
end Go.Proofs.Ytbkgklkiennpbaa.HE
/- The marked places, as the program lists them. -/
set_option linter.unusedVariables false
set_option linter.unusedSimpArgs false
namespace Go.Proofs.Ytbkgklkiennpbaa.HE
open Go Go.RowKit Go.Proofs.YtbkgklkiennpbaaW.PrintWords Go.Proofs.YtbkgklkiennpbaaW.PrintLast Go.Proofs.Ytbkgklkiennpbaa.Aid

theorem trues_ev (m : List Bool) (hm : m.length ≤ 1048576) : Ev (fun k => impl_trues.f k m) (idxTo m m.length) := by
  have h := loop_to (fun k n (s : List Int) => impl_trues.l0 k s m (m.length : Int) (n : Int)) m.length (fun n s => s = idxTo m n) (idxTo m m.length)
    (fun n s hn hI => Or.inl ⟨idxTo m (n + 1), rfl, 0, fun k _ => by
      have hs : s = idxTo m n := hI
      subst hs
      have := idxTo_len m n
      simp only [impl_trues.l0]
      rw [if_pos (by omega), if_pos (by omega), if_pos (by omega), idxTo_succ, wrap_succ hn (by omega)]
      by_cases h : rdOf false m (n : Int) = true
      · rw [if_pos h, if_pos (by omega), if_pos h]
      · rw [if_neg h, if_neg h, List.append_nil]⟩)
    (fun s hI => ⟨0, fun k _ => by
      have hs : s = idxTo m m.length := hI
      simp only [impl_trues.l0]
      rw [if_neg (by omega), hs]⟩) 0 [] (Nat.zero_le _) rfl
  exact Ev.congr (fun k => rfl) h
end Go.Proofs.Ytbkgklkiennpbaa.HE
