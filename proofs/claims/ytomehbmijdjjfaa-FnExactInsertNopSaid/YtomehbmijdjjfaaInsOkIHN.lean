/- Whether an instruction is valid, as the program's table tells it. No condition. -/
import Derived.Test.YtomehbmijdjjfaaLoopAid
import Derived.Test.YtomehbmijdjjfaaHN4
set_option linter.unusedVariables false
set_option linter.unusedSimpArgs false
namespace Go.Proofs.Ytomehbmijdjjfaa.HN
open Go Go.RowKit Go.Proofs.YtomehbmijdjjfaaW.PrintWords Go.Proofs.YtomehbmijdjjfaaW.PrintLast Go.Proofs.Ytomehbmijdjjfaa.Aid

def inB (n lo hi : Int) : Bool := decide (lo ≤ n) && decide (n ≤ hi)
def insOkB (op a b c s : Int) : Bool :=
  inB s 0 32 && (if op = 0 ∨ op = 12 ∨ op = 16 then a == 0 && b == 0 && c == 0
    else if op = 1 then inB a 0 3 && inB b 0 65535 && c == 0
    else if op = 2 ∨ op = 13 ∨ op = 14 ∨ op = 15 then inB a 0 3 && inB b 0 3 && c == 0
    else if op = 8 then inB a 0 3 && b == 0 && c == 0
    else if op = 10 then inB a 0 3 && inB b 0 s && c == 0
    else if op = 11 then a == 0 && inB b 0 s && c == 0
    else if 3 ≤ op ∧ op ≤ 9 then inB a 0 3 && inB b 0 3 && inB c 0 3
    else false)
theorem within_val (a b c : Int) : impl_within.f a b c = some (inB a b c) := by
  unfold impl_within.f inB
  by_cases h : b ≤ a
  · rw [if_pos (show a ≥ b from h)]; simp [h]
  · rw [if_neg (show ¬ a ≥ b from h)]; simp [h]
theorem isReg_val (a : Int) : impl_isReg.f a = some (inB a 0 3) := by unfold impl_isReg.f; rw [within_val]; rfl
theorem isWord_val (a : Int) : impl_IsWord.f a = some (inB a 0 65535) := by unfold impl_IsWord.f; rw [within_val]; rfl
def fieldB (form n s : Int) : Bool := if form = 82 then inB n 0 3 else if form = 87 then inB n 0 65535 else if form = 84 then inB n 0 s else n == 0
theorem isField_val (form n s : Int) : impl_isField.f form n s = some (fieldB form n s) := by
  unfold impl_isField.f fieldB
  rw [isReg_val, isWord_val, within_val]
  by_cases h : form = 82
  · simp [h]
  · by_cases h1 : form = 87
    · simp [h1]
    · by_cases h2 : form = 84 <;> simp [h, h1, h2]
theorem form_val (op : Int) (x y z : UInt8) (f : ByteArray) (hf : impl_formOf.f op = some f) (he : f = ⟨#[x, y, z]⟩) (a b c s : Int) :
    impl_InsOk.f op a b c s = some (inB s 0 32 && (fieldB (x.toNat : Int) a s && (fieldB (y.toNat : Int) b s && fieldB (z.toNat : Int) c s))) := by
  subst he
  unfold impl_InsOk.f
  rw [hf, Option.bind_some, if_neg (by rw [toList_data]; simp), within_val, Option.bind_some]
  cases inB s 0 32
  · rfl
  · rw [if_pos rfl, if_pos (show (0 : Int) < (((⟨#[x, y, z]⟩ : ByteArray).size : Nat) : Int) from by show (0 : Int) < ((3 : Nat) : Int); decide), show bt ⟨#[x, y, z]⟩ 0 = (x.toNat : Int) from rfl, isField_val, Option.bind_some]
    cases fieldB (x.toNat : Int) a s
    · rfl
    · rw [if_pos rfl, if_pos (show (1 : Int) < (((⟨#[x, y, z]⟩ : ByteArray).size : Nat) : Int) from by show (1 : Int) < ((3 : Nat) : Int); decide), show bt ⟨#[x, y, z]⟩ 1 = (y.toNat : Int) from rfl, isField_val, Option.bind_some]
      cases fieldB (y.toNat : Int) b s
      · rfl
      · rw [if_pos rfl, if_pos (show (2 : Int) < (((⟨#[x, y, z]⟩ : ByteArray).size : Nat) : Int) from by show (2 : Int) < ((3 : Nat) : Int); decide), show bt ⟨#[x, y, z]⟩ 2 = (z.toNat : Int) from rfl, isField_val, Option.bind_some]
        rfl
theorem insOk_val (op a b c s : Int) : impl_InsOk.f op a b c s = some (insOkB op a b c s) := by
  by_cases h : 0 ≤ op ∧ op ≤ 16
  · have hc : op = 0 ∨ op = 1 ∨ op = 2 ∨ op = 3 ∨ op = 4 ∨ op = 5 ∨ op = 6 ∨ op = 7 ∨ op = 8 ∨ op = 9 ∨ op = 10 ∨ op = 11 ∨ op = 12 ∨ op = 13 ∨ op = 14 ∨ op = 15 ∨ op = 16 := by omega
    rcases hc with rfl | rfl | rfl | rfl | rfl | rfl | rfl | rfl | rfl | rfl | rfl | rfl | rfl | rfl | rfl | rfl | rfl <;>
      (rw [form_val _ _ _ _ _ rfl rfl]; simp [insOkB, fieldB, Bool.and_assoc])
  · have hf : impl_formOf.f op = some ⟨#[]⟩ := by
      unfold impl_formOf.f
      rw [within_val, show inB op 0 16 = false by unfold inB; simp; omega]
      rfl
    have h0 : ¬ (op = 0 ∨ op = 12 ∨ op = 16) := by omega
    have h1 : ¬ op = 1 := by omega
    have h2 : ¬ (op = 2 ∨ op = 13 ∨ op = 14 ∨ op = 15) := by omega
    have h3 : ¬ op = 8 := by omega
    have h4 : ¬ op = 10 := by omega
    have h5 : ¬ op = 11 := by omega
    have h6 : ¬ (3 ≤ op ∧ op ≤ 9) := by omega
    unfold impl_InsOk.f insOkB
    rw [hf, Option.bind_some, if_pos (by rw [toList_data]), if_neg h0, if_neg h1, if_neg h2, if_neg h3, if_neg h4, if_neg h5, if_neg h6]
    simp
end Go.Proofs.Ytomehbmijdjjfaa.HN
