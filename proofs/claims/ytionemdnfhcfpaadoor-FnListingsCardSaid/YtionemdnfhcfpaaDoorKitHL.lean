import Derived.Test.YtionemdnfhcfpaaDoorNumAid
import Derived.Test.YtionemdnfhcfpaaDoorLoopAid
import Derived.Test.YtionemdnfhcfpaaDoorHL2
import Derived.Test.YtionemdnfhcfpaaDoorFieldsAid
import Derived.Test.YtionemdnfhcfpaaDoorHL3
import Derived.Test.YtionemdnfhcfpaaDoorHL4
import Derived.Test.YtionemdnfhcfpaaDoorHL5
/- The program's numerals are the library's. No condition but a number that an int holds. -/
set_option linter.unusedVariables false
set_option linter.unusedSimpArgs false
namespace Go.Proofs.YtionemdnfhcfpaaDoor.HL
open Go Go.RowKit Go.Proofs.YtionemdnfhcfpaaDoorW.PrintWords Go.Proofs.YtionemdnfhcfpaaDoorW.PrintLast Go.Proofs.YtionemdnfhcfpaaDoor.Aid

theorem mk_append (a b : List UInt8) : (⟨a.toArray⟩ : ByteArray) ++ ⟨b.toArray⟩ = ⟨(a ++ b).toArray⟩ := by
  apply ByteArray.ext
  simp [ByteArray.data_append]
theorem mk_size (a : List UInt8) : (⟨a.toArray⟩ : ByteArray).size = a.length := by simp [ByteArray.size]
theorem fmtInt_val {n : Int} (h0 : -9223372036854775808 ≤ n) (h1 : n ≤ 9223372036854775807) : impl_FormatInt.f n = some ⟨(Lib.itoa n).toArray⟩ := by
  unfold impl_FormatInt.f strconv_Itoa.f
  rw [if_pos ⟨h0, h1⟩]; rfl
end Go.Proofs.YtionemdnfhcfpaaDoor.HL
/- The fields of a line, as the program tells them. No condition. -/
set_option linter.unusedVariables false
set_option linter.unusedSimpArgs false
namespace Go.Proofs.YtionemdnfhcfpaaDoor.HL
open Go Go.RowKit Go.Proofs.YtionemdnfhcfpaaDoorW.PrintWords Go.Proofs.YtionemdnfhcfpaaDoorW.PrintLast Go.Proofs.YtionemdnfhcfpaaDoor.Aid

def mkB (l : List UInt8) : ByteArray := ⟨l.toArray⟩
theorem mkB_data (s : ByteArray) : mkB s.data.toList = s := by unfold mkB; cases s; simp
theorem mkB_list (l : List UInt8) : (mkB l).data.toList = l := by unfold mkB; simp
theorem mkB_size (l : List UInt8) : (mkB l).size = l.length := by simp [mkB, ByteArray.size]
theorem mkB_inj {a b : List UInt8} (h : mkB a = mkB b) : a = b := by rw [← mkB_list a, h, mkB_list]
theorem size_list (s : ByteArray) : s.size = s.data.toList.length := Array.length_toList.symm
theorem bt_list {s : ByteArray} {n : Nat} {c : UInt8} (h : s.data.toList[n]? = some c) : bt s (n : Int) = (c.toNat : Int) := by
  obtain ⟨hn, hc⟩ := List.getElem?_eq_some_iff.1 h
  have hs : n < s.size := by rw [size_list]; exact hn
  unfold bt
  rw [dif_pos (by simpa using hs)]
  congr 2
theorem splitB_small {a : ByteArray} (h : a.size ≤ 600) : splitB a.data.toList = if a.data.toList.all okC = true then (if (Lib.fields a.data.toList).length ≤ 24 then (Lib.fields a.data.toList, true) else ([], false)) else ([], false) := by
  have hL := size_list a
  unfold splitB
  by_cases h1 : a.data.toList.all okC = true
  · rw [if_pos ⟨by omega, h1⟩, if_pos h1]
  · rw [if_neg (fun x => h1 x.2), if_neg h1]
theorem implSplit_val (a : ByteArray) : impl_SplitFields.f a = some ((splitB a.data.toList).1.map mkB, (splitB a.data.toList).2) := by
  have hL := size_list a
  have hbad : a.data.toList.any (fun b => impl_SplitFields.bad b.toNat) = !(a.data.toList.all okC) := by
    induction a.data.toList with
    | nil => rfl
    | cons b l ih =>
      have hb : impl_SplitFields.bad (b.toNat : Int) = !(okC b) := by
        unfold impl_SplitFields.bad okC
        rw [Bool.eq_iff_iff]
        simp
        omega
      rw [List.any_cons, List.all_cons, ih, hb, Bool.not_and]
  unfold impl_SplitFields.f
  by_cases h : a.size ≤ 600
  · rw [if_neg (by omega), hbad, splitB_small h]
    by_cases h1 : a.data.toList.all okC = true
    · rw [if_pos h1, h1, if_neg (by decide)]
      by_cases h2 : (Lib.fields a.data.toList).length ≤ 24
      · rw [if_neg (by omega), if_pos h2]; rfl
      · rw [if_pos (by omega), if_neg h2]; rfl
    · rw [if_neg h1, if_pos (by simpa using h1)]; rfl
  · have hs2 : splitB a.data.toList = ([], false) := by
      unfold splitB
      rw [if_neg (by omega)]
    rw [if_pos (by omega), hs2]; rfl
end Go.Proofs.YtionemdnfhcfpaaDoor.HL
/- The numbers that are parsed from decimal texts, as the program tells them. No condition but a text that memory holds. -/
set_option linter.unusedVariables false
set_option linter.unusedSimpArgs false
namespace Go.Proofs.YtionemdnfhcfpaaDoor.HL
open Go Go.RowKit Go.Proofs.YtionemdnfhcfpaaDoorW.PrintWords Go.Proofs.YtionemdnfhcfpaaDoorW.PrintLast Go.Proofs.YtionemdnfhcfpaaDoor.Aid

theorem implUint_val {a : ByteArray} (ha : a.size ≤ 281474976710656) : impl_ParseUint.f a = some (puB a.data.toList) := by
  unfold impl_ParseUint.f
  rw [if_pos ha]
  congr 1
  unfold impl_ParseUint.v
  rcases puB_cases a.data.toList with ⟨n, h0, h1, e, hp⟩ | ⟨hp, hn⟩
  · rw [hp, e, atoiAll_itoa h0 h1]
    simp only
    rw [if_pos ⟨h0, h1⟩, if_pos trivial]
  · rw [hp]
    cases Lib.atoiAll a.data.toList with
    | range => rfl
    | ok v =>
      simp only
      by_cases hv : 0 ≤ v ∧ v ≤ 1000000000
      · rw [if_pos hv, if_neg (fun e => hn v hv.1 hv.2 e.symm)]
      · rw [if_neg hv]
    | _ => rfl
end Go.Proofs.YtionemdnfhcfpaaDoor.HL
/- Whether an instruction is valid, as the program's table tells it. No condition. -/
set_option linter.unusedVariables false
set_option linter.unusedSimpArgs false
namespace Go.Proofs.YtionemdnfhcfpaaDoor.HL
open Go Go.RowKit Go.Proofs.YtionemdnfhcfpaaDoorW.PrintWords Go.Proofs.YtionemdnfhcfpaaDoorW.PrintLast Go.Proofs.YtionemdnfhcfpaaDoor.Aid

def inB (n lo hi : Int) : Bool := decide (lo ≤ n) && decide (n ≤ hi)
def insOkB (op a b c s : Int) : Bool :=
  inB s 0 32 && (if op = 0 ∨ op = 12 ∨ op = 16 then a == 0 && b == 0 && c == 0
    else if op = 1 then inB a 0 3 && inB b 0 65535 && c == 0
    else if op = 2 ∨ op = 13 ∨ op = 14 ∨ op = 15 then inB a 0 3 && inB b 0 3 && c == 0
    else if op = 8 then inB a 0 3 && b == 0 && c == 0
    else if op = 10 then inB a 0 3 && inB b 0 s && c == 0
    else if op = 11 then a == 0 && inB b 0 s && c == 0
    else if 3 ≤ op ∧ op ≤ 9 then inB a 0 3 && inB b 0 3 && inB c 0 3
    else false)
theorem within_val (a b c : Int) : impl_within.f a b c = some (inB a b c) := by
  unfold impl_within.f inB
  by_cases h : b ≤ a
  · rw [if_pos (show a ≥ b from h)]; simp [h]
  · rw [if_neg (show ¬ a ≥ b from h)]; simp [h]
theorem isReg_val (a : Int) : impl_isReg.f a = some (inB a 0 3) := by unfold impl_isReg.f; rw [within_val]; rfl
theorem isWord_val (a : Int) : impl_IsWord.f a = some (inB a 0 65535) := by unfold impl_IsWord.f; rw [within_val]; rfl
def fieldB (form n s : Int) : Bool := if form = 82 then inB n 0 3 else if form = 87 then inB n 0 65535 else if form = 84 then inB n 0 s else n == 0
theorem isField_val (form n s : Int) : impl_isField.f form n s = some (fieldB form n s) := by
  unfold impl_isField.f fieldB
  rw [isReg_val, isWord_val, within_val]
  by_cases h : form = 82
  · simp [h]
  · by_cases h1 : form = 87
    · simp [h1]
    · by_cases h2 : form = 84 <;> simp [h, h1, h2]
theorem form_val (op : Int) (x y z : UInt8) (f : ByteArray) (hf : impl_formOf.f op = some f) (he : f = ⟨#[x, y, z]⟩) (a b c s : Int) :
    impl_InsOk.f op a b c s = some (inB s 0 32 && (fieldB (x.toNat : Int) a s && (fieldB (y.toNat : Int) b s && fieldB (z.toNat : Int) c s))) := by
  subst he
  unfold impl_InsOk.f
  rw [hf, Option.bind_some, if_neg (by rw [toList_data]; simp), within_val, Option.bind_some]
  cases inB s 0 32
  · rfl
  · rw [if_pos rfl, if_pos (show (0 : Int) < (((⟨#[x, y, z]⟩ : ByteArray).size : Nat) : Int) from by show (0 : Int) < ((3 : Nat) : Int); decide), show bt ⟨#[x, y, z]⟩ 0 = (x.toNat : Int) from rfl, isField_val, Option.bind_some]
    cases fieldB (x.toNat : Int) a s
    · rfl
    · rw [if_pos rfl, if_pos (show (1 : Int) < (((⟨#[x, y, z]⟩ : ByteArray).size : Nat) : Int) from by show (1 : Int) < ((3 : Nat) : Int); decide), show bt ⟨#[x, y, z]⟩ 1 = (y.toNat : Int) from rfl, isField_val, Option.bind_some]
      cases fieldB (y.toNat : Int) b s
      · rfl
      · rw [if_pos rfl, if_pos (show (2 : Int) < (((⟨#[x, y, z]⟩ : ByteArray).size : Nat) : Int) from by show (2 : Int) < ((3 : Nat) : Int); decide), show bt ⟨#[x, y, z]⟩ 2 = (z.toNat : Int) from rfl, isField_val, Option.bind_some]
        rfl
theorem insOk_val (op a b c s : Int) : impl_InsOk.f op a b c s = some (insOkB op a b c s) := by
  by_cases h : 0 ≤ op ∧ op ≤ 16
  · have hc : op = 0 ∨ op = 1 ∨ op = 2 ∨ op = 3 ∨ op = 4 ∨ op = 5 ∨ op = 6 ∨ op = 7 ∨ op = 8 ∨ op = 9 ∨ op = 10 ∨ op = 11 ∨ op = 12 ∨ op = 13 ∨ op = 14 ∨ op = 15 ∨ op = 16 := by omega
    rcases hc with rfl | rfl | rfl | rfl | rfl | rfl | rfl | rfl | rfl | rfl | rfl | rfl | rfl | rfl | rfl | rfl | rfl <;>
      (rw [form_val _ _ _ _ _ rfl rfl]; simp [insOkB, fieldB, Bool.and_assoc])
  · have hf : impl_formOf.f op = some ⟨#[]⟩ := by
      unfold impl_formOf.f
      rw [within_val, show inB op 0 16 = false by unfold inB; simp; omega]
      rfl
    have h0 : ¬ (op = 0 ∨ op = 12 ∨ op = 16) := by omega
    have h1 : ¬ op = 1 := by omega
    have h2 : ¬ (op = 2 ∨ op = 13 ∨ op = 14 ∨ op = 15) := by omega
    have h3 : ¬ op = 8 := by omega
    have h4 : ¬ op = 10 := by omega
    have h5 : ¬ op = 11 := by omega
    have h6 : ¬ (3 ≤ op ∧ op ≤ 9) := by omega
    unfold impl_InsOk.f insOkB
    rw [hf, Option.bind_some, if_pos (by rw [toList_data]), if_neg h0, if_neg h1, if_neg h2, if_neg h3, if_neg h4, if_neg h5, if_neg h6]
    simp
end Go.Proofs.YtionemdnfhcfpaaDoor.HL
/- The text of an instruction, as the program writes it. No condition but fields that an int holds. -/
set_option linter.unusedVariables false
set_option linter.unusedSimpArgs false
namespace Go.Proofs.YtionemdnfhcfpaaDoor.HL
open Go Go.RowKit Go.Proofs.YtionemdnfhcfpaaDoorW.PrintWords Go.Proofs.YtionemdnfhcfpaaDoorW.PrintLast Go.Proofs.YtionemdnfhcfpaaDoor.Aid

def namesT : List ByteArray := [⟨#[110, 111, 112]⟩, ⟨#[115, 101, 116]⟩, ⟨#[109, 111, 118, 101]⟩, ⟨#[97, 100, 100]⟩, ⟨#[115, 117, 98]⟩, ⟨#[109, 117, 108]⟩, ⟨#[120, 111, 114]⟩, ⟨#[108, 101, 115, 115]⟩, ⟨#[115, 101, 108, 102]⟩, ⟨#[112, 105, 99, 107]⟩, ⟨#[122, 101, 114, 111]⟩, ⟨#[106, 117, 109, 112]⟩, ⟨#[104, 97, 108, 116]⟩, ⟨#[108, 111, 97, 100]⟩, ⟨#[115, 116, 111, 114, 101]⟩, ⟨#[98, 117, 109, 112]⟩, ⟨#[98, 97, 114, 114, 105, 101, 114]⟩]
def nameT (op : Int) : ByteArray := rdOf ByteArray.empty namesT op
theorem inB16 {op : Int} (h0 : 0 ≤ op) (h1 : op ≤ 16) : inB op 0 16 = true := by unfold inB; simp [h0, h1]
theorem op_cases {op : Int} (h0 : 0 ≤ op) (h1 : op ≤ 16) : op = 0 ∨ op = 1 ∨ op = 2 ∨ op = 3 ∨ op = 4 ∨ op = 5 ∨ op = 6 ∨ op = 7 ∨ op = 8 ∨ op = 9 ∨ op = 10 ∨ op = 11 ∨ op = 12 ∨ op = 13 ∨ op = 14 ∨ op = 15 ∨ op = 16 := by omega
theorem opName_val {op : Int} (h0 : 0 ≤ op) (h1 : op ≤ 16) : impl_OpName.f op = some (nameT op) := by
  rcases op_cases h0 h1 with rfl | rfl | rfl | rfl | rfl | rfl | rfl | rfl | rfl | rfl | rfl | rfl | rfl | rfl | rfl | rfl | rfl <;> rfl
/-- Which fields an operation has, as bits. -/
def l06 (op : Int) : Int := if op = 0 ∨ op = 12 ∨ op = 16 then 0 else if op = 8 then 1 else if op = 11 then 2 else if op = 1 ∨ op = 2 ∨ op = 10 ∨ op = 13 ∨ op = 14 ∨ op = 15 then 3 else 7
def flB (op : Int) (n : Nat) : Bool := l06 op = 7 || (l06 op = 3 && decide (n < 2)) || (l06 op = 1 && n == 0) || (l06 op = 2 && n == 1)
theorem formOf_val {op : Int} (h0 : 0 ≤ op) (h1 : op ≤ 16) : ∃ f : ByteArray, impl_formOf.f op = some f ∧ f.size = 3 ∧ ∀ n : Nat, n < 3 → ((bt f (n : Int) = 45) ↔ flB op n = false) := by
  have key : ∀ (f : ByteArray), impl_formOf.f op = some f → f.size = 3 → ((bt f ((0 : Nat) : Int) = 45) ↔ flB op 0 = false) → ((bt f ((1 : Nat) : Int) = 45) ↔ flB op 1 = false) → ((bt f ((2 : Nat) : Int) = 45) ↔ flB op 2 = false) →
      ∃ f : ByteArray, impl_formOf.f op = some f ∧ f.size = 3 ∧ ∀ n : Nat, n < 3 → ((bt f (n : Int) = 45) ↔ flB op n = false) := fun f hf hs a0 a1 a2 => ⟨f, hf, hs, fun n hn => by
    have hc : n = 0 ∨ n = 1 ∨ n = 2 := by omega
    rcases hc with rfl | rfl | rfl
    · exact a0
    · exact a1
    · exact a2⟩
  rcases op_cases h0 h1 with rfl | rfl | rfl | rfl | rfl | rfl | rfl | rfl | rfl | rfl | rfl | rfl | rfl | rfl | rfl | rfl | rfl <;>
    exact key _ rfl rfl (by decide +kernel) (by decide +kernel) (by decide +kernel)
/-- The text behind the name, field by field. -/
def partT (op : Int) (l : List Int) : Nat → List UInt8
  | 0 => (nameT op).data.toList
  | n + 1 => partT op l n ++ (if flB op n = true then 32 :: Lib.itoa (rd l (n : Int)) else [])
theorem name_len {op : Int} (h0 : 0 ≤ op) (h1 : op ≤ 16) : (nameT op).data.toList.length ≤ 7 := by
  rcases op_cases h0 h1 with rfl | rfl | rfl | rfl | rfl | rfl | rfl | rfl | rfl | rfl | rfl | rfl | rfl | rfl | rfl | rfl | rfl <;> decide +kernel
theorem itoa_len21 {n : Int} (h0 : -9223372036854775808 ≤ n) (h1 : n ≤ 9223372036854775807) : (Lib.itoa n).length ≤ 20 := by
  unfold Lib.itoa
  split
  · have := digits_len n.natAbs 19 (by omega) (by omega)
    simp; omega
  · have := digits_len n.toNat 19 (by omega) (by omega)
    omega
theorem part_len {op : Int} (h0 : 0 ≤ op) (h1 : op ≤ 16) {l : List Int} (hl : ∀ n : Nat, n < 3 → -9223372036854775808 ≤ rd l (n : Int) ∧ rd l (n : Int) ≤ 9223372036854775807) : ∀ n, n ≤ 3 → (partT op l n).length ≤ 7 + 21 * n
  | 0, _ => by have := name_len h0 h1; show (nameT op).data.toList.length ≤ _; omega
  | n + 1, hn => by
    have ih := part_len h0 h1 hl n (by omega)
    have hr := hl n (by omega)
    have := itoa_len21 hr.1 hr.2
    show (partT op l n ++ _).length ≤ _
    rw [List.length_append]
    split <;> simp <;> omega
theorem part_step (op : Int) (l : List Int) (n : Nat) (h : flB op n = true) : mkB (partT op l n) ++ ((⟨#[32]⟩ : ByteArray) ++ ⟨(Lib.itoa (rd l (n : Int))).toArray⟩) = mkB (partT op l (n + 1)) := by
  have e1 : (⟨#[32]⟩ : ByteArray) ++ ⟨(Lib.itoa (rd l (n : Int))).toArray⟩ = ⟨(32 :: Lib.itoa (rd l (n : Int))).toArray⟩ := mk_append [32] _
  rw [e1]
  show mkB (partT op l n) ++ mkB _ = mkB (partT op l n ++ _)
  rw [if_pos h]
  exact mk_append _ _
theorem part_skip (op : Int) (l : List Int) (n : Nat) (h : flB op n = false) : partT op l (n + 1) = partT op l n := by
  show partT op l n ++ _ = _
  rw [h, if_neg (by decide), List.append_nil]
theorem insOk_op {op a b c s : Int} (h : insOkB op a b c s = true) : 0 ≤ op ∧ op ≤ 16 := by
  refine Classical.byContradiction fun hn => ?_
  have h0 : ¬ (op = 0 ∨ op = 12 ∨ op = 16) := by omega
  have h1 : ¬ op = 1 := by omega
  have h2 : ¬ (op = 2 ∨ op = 13 ∨ op = 14 ∨ op = 15) := by omega
  have h3 : ¬ op = 8 := by omega
  have h4 : ¬ op = 10 := by omega
  have h5 : ¬ op = 11 := by omega
  have h6 : ¬ (3 ≤ op ∧ op ≤ 9) := by omega
  unfold insOkB at h
  rw [if_neg h0, if_neg h1, if_neg h2, if_neg h3, if_neg h4, if_neg h5, if_neg h6] at h
  simp at h
/-- The text of an instruction: none if it is not valid. -/
def textT (op a b c : Int) : List UInt8 := if insOkB op a b c 32 = true then partT op [a, b, c] 3 else []
theorem three {P : Int → Prop} {a b c : Int} (ha : P a) (hb : P b) (hc : P c) : ∀ n : Nat, n < 3 → P (rd [a, b, c] (n : Int)) := by
  intro n hn
  have h : n = 0 ∨ n = 1 ∨ n = 2 := by omega
  rcases h with rfl | rfl | rfl
  · exact ha
  · exact hb
  · exact hc
theorem formatIns_ev {op a b c : Int} (ha : -9223372036854775808 ≤ a ∧ a ≤ 9223372036854775807) (hb : -9223372036854775808 ≤ b ∧ b ≤ 9223372036854775807) (hc : -9223372036854775808 ≤ c ∧ c ≤ 9223372036854775807) :
    Ev (fun k => impl_FormatIns.f k op a b c) (mkB (textT op a b c)) := by
  cases hok : insOkB op a b c 32 with
  | false =>
    refine Ev.congr (fun k => ?_) (ev_some _)
    unfold impl_FormatIns.f textT
    rw [insOk_val, hok, Option.bind_some, if_neg (by decide), if_neg (by decide)]
    rfl
  | true =>
    obtain ⟨o0, o1⟩ := insOk_op hok
    have hr := three (P := fun x => -9223372036854775808 ≤ x ∧ x ≤ 9223372036854775807) ha hb hc
    obtain ⟨f, hf, hfs, hfl⟩ := formOf_val o0 o1
    have h := loop_to (fun k n (s : ByteArray) => impl_FormatIns.l0 k s [a, b, c] 3 (n : Int) op a b c) 3 (fun n s => s = mkB (partT op [a, b, c] n)) (mkB (partT op [a, b, c] 3))
      (fun n s hn hI => Or.inl ⟨mkB (partT op [a, b, c] (n + 1)), rfl, 0, fun k _ => by
        have hs : s = mkB (partT op [a, b, c] n) := hI
        subst hs
        have hlen := part_len o0 o1 hr n (by omega)
        have hrn := hr n hn
        have hil := itoa_len21 hrn.1 hrn.2
        have hsz1 : (⟨(Lib.itoa (rd [a, b, c] (n : Int))).toArray⟩ : ByteArray).size ≤ 20 := by rw [mk_size]; exact hil
        have hsz2 : (mkB (partT op [a, b, c] n)).size ≤ 100 := by rw [mkB_size]; omega
        simp only [impl_FormatIns.l0]
        rw [if_pos (by omega), if_pos (by omega), if_pos (by simp only [List.length_cons, List.length_nil]; omega), hf, Option.bind_some, if_pos (by omega), wrap_succ hn (by omega)]
        cases hfb : flB op n with
        | true =>
          rw [if_neg (by rw [hfl n hn, hfb]; decide), fmtInt_val hrn.1 hrn.2, Option.bind_some, if_pos (by omega), if_pos (by rw [ByteArray.size_append]; show _ + (1 + _) ≤ _; omega), part_step op _ n hfb]
        | false =>
          rw [if_pos ((hfl n hn).2 hfb), part_skip op _ n hfb]⟩)
      (fun s hI => ⟨0, fun k _ => by
        have hs : s = mkB (partT op [a, b, c] 3) := hI
        subst hs
        simp only [impl_FormatIns.l0]
        rw [if_neg (by omega)]⟩) 0 (mkB (partT op [a, b, c] 0)) (Nat.zero_le _) rfl
    refine Ev.congr (fun k => ?_) (show Ev _ (mkB (textT op a b c)) from by unfold textT; rw [if_pos hok]; exact h)
    unfold impl_FormatIns.f
    rw [insOk_val, hok, Option.bind_some, if_pos rfl, opName_val o0 o1, Option.bind_some, Option.bind_some, show nameT op = mkB (partT op [a, b, c] 0) from (mkB_data _).symm]
    rfl
end Go.Proofs.YtionemdnfhcfpaaDoor.HL
/- The instruction that a line's text gives, as the program reads it. No condition but a text that memory holds. -/
set_option linter.unusedVariables false
set_option linter.unusedSimpArgs false
namespace Go.Proofs.YtionemdnfhcfpaaDoor.HL
open Go Go.RowKit Go.Proofs.YtionemdnfhcfpaaDoorW.PrintWords Go.Proofs.YtionemdnfhcfpaaDoorW.PrintLast Go.Proofs.YtionemdnfhcfpaaDoor.Aid

/-- The words of an instruction's text. -/
def wordsT (op : Int) (l : List Int) : Nat → List (List UInt8)
  | 0 => [(nameT op).data.toList]
  | n + 1 => wordsT op l n ++ (if flB op n = true then [Lib.itoa (rd l (n : Int))] else [])
theorem words_cons (op : Int) (l : List Int) : ∀ n, ∃ r, wordsT op l n = (nameT op).data.toList :: r
  | 0 => ⟨[], rfl⟩
  | n + 1 => by
    obtain ⟨r, h⟩ := words_cons op l n
    exact ⟨_, by show wordsT op l n ++ _ = _; rw [h, List.cons_append]⟩
theorem joinTail_snoc (sep : List UInt8) (a : List (List UInt8)) (y : List UInt8) : Lib.joinTail sep (a ++ [y]) = Lib.joinTail sep a ++ (sep ++ y) := by simp [Lib.joinTail]
theorem part_join (op : Int) (l : List Int) : ∀ n, partT op l n = Lib.join (wordsT op l n) [32]
  | 0 => (Lib.join_one _ _).symm
  | n + 1 => by
    have ih := part_join op l n
    obtain ⟨r, hr⟩ := words_cons op l n
    show partT op l n ++ _ = Lib.join (wordsT op l n ++ _) [32]
    rw [ih, hr]
    cases flB op n with
    | true => rw [if_pos rfl, if_pos rfl, List.cons_append, Lib.join_cons, Lib.join_cons, joinTail_snoc, List.append_assoc]; rfl
    | false => rw [if_neg (by decide), if_neg (by decide), List.append_nil, List.append_nil]
theorem itoa_byte {n : Int} {b : UInt8} (h : b ∈ Lib.itoa n) : b.toNat = 45 ∨ (48 ≤ b.toNat ∧ b.toNat ≤ 57) := by
  unfold Lib.itoa at h
  split at h
  · rcases List.mem_cons.1 h with rfl | h
    · left; rfl
    · right; exact digits_mem h
  · right; exact digits_mem h
theorem okC_of {b : UInt8} (h : 33 ≤ b.toNat ∧ b.toNat ≤ 126) : okC b = true ∧ Lib.isSp b = false := by
  have h1 : okC b = true := by unfold okC; exact decide_eq_true ⟨by omega, by omega⟩
  exact ⟨h1, by rw [isSp_ok h1]; exact decide_eq_false (by omega)⟩
theorem name_bytes {op : Int} (h0 : 0 ≤ op) (h1 : op ≤ 16) : (nameT op).data.toList ≠ [] ∧ ∀ b ∈ (nameT op).data.toList, 33 ≤ b.toNat ∧ b.toNat ≤ 126 := by
  rcases op_cases h0 h1 with rfl | rfl | rfl | rfl | rfl | rfl | rfl | rfl | rfl | rfl | rfl | rfl | rfl | rfl | rfl | rfl | rfl <;> decide +kernel
theorem words_bytes {op : Int} (h0 : 0 ≤ op) (h1 : op ≤ 16) (l : List Int) : ∀ n, ∀ w ∈ wordsT op l n, w ≠ [] ∧ ∀ b ∈ w, 33 ≤ b.toNat ∧ b.toNat ≤ 126
  | 0, w, hw => by
    rw [List.mem_singleton.1 hw]
    exact name_bytes h0 h1
  | n + 1, w, hw => by
    rcases List.mem_append.1 hw with hw | hw
    · exact words_bytes h0 h1 l n w hw
    · split at hw
      · rw [List.mem_singleton.1 hw]
        refine ⟨itoa_ne _, fun b hb => ?_⟩
        have := itoa_byte hb
        omega
      · cases hw
theorem words_wordB {op : Int} (h0 : 0 ≤ op) (h1 : op ≤ 16) (l : List Int) (n : Nat) : ∀ w ∈ wordsT op l n, wordB w := fun w hw =>
  ⟨(words_bytes h0 h1 l n w hw).1, fun b hb => (okC_of ((words_bytes h0 h1 l n w hw).2 b hb)).2⟩
/-- The fields as the program reads them: it takes what is there. -/
def runI (op : Int) (W : List (List UInt8)) : Nat → Nat → List Int → Nat → List Int
  | 0, _, l, _ => l
  | d + 1, n, l, x => if flB op n = true ∧ x < W.length then runI op W d (n + 1) (l.set n (puB (W.getD x [])).1) (x + 1) else runI op W d (n + 1) l x
theorem rd_set {l : List Int} {i j : Nat} {v : Int} : rd (l.set i v) (j : Int) = if i = j ∧ i < l.length then v else rd l (j : Int) := by
  unfold rd
  rw [List.getD_eq_getElem?_getD, List.getD_eq_getElem?_getD, Int.toNat_natCast, List.getElem?_set]
  by_cases h : i = j
  · subst h
    by_cases h2 : i < l.length
    · rw [if_pos rfl, if_pos h2, if_pos ⟨rfl, h2⟩]; rfl
    · rw [if_pos rfl, if_neg h2, if_neg (fun x => h2 x.2), List.getElem?_eq_none (by omega)]
  · rw [if_neg h, if_neg (fun x => h x.1)]
theorem runI_len (op : Int) (W : List (List UInt8)) : ∀ d n l x, (runI op W d n l x).length = l.length
  | 0, n, l, x => rfl
  | d + 1, n, l, x => by
    unfold runI
    split
    · rw [runI_len op W d]; simp
    · exact runI_len op W d _ _ _
theorem runI_keep (op : Int) (W : List (List UInt8)) : ∀ d n l x (j : Nat), j < n → rd (runI op W d n l x) (j : Int) = rd l (j : Int)
  | 0, n, l, x, j, hj => rfl
  | d + 1, n, l, x, j, hj => by
    unfold runI
    split
    · rw [runI_keep op W d _ _ _ j (by omega), rd_set, if_neg (fun h => by omega)]
    · exact runI_keep op W d _ _ _ j (by omega)
theorem words_congr (op : Int) {l l' : List Int} : ∀ n, (∀ j : Nat, j < n → rd l (j : Int) = rd l' (j : Int)) → wordsT op l n = wordsT op l' n
  | 0, _ => rfl
  | n + 1, h => by
    show wordsT op l n ++ _ = wordsT op l' n ++ _
    rw [words_congr op n (fun j hj => h j (by omega)), h n (by omega)]
theorem words_pre (op : Int) (l : List Int) (n : Nat) : ∀ d, ∃ r, wordsT op l (n + d) = wordsT op l n ++ r
  | 0 => ⟨[], by simp⟩
  | d + 1 => by
    obtain ⟨r, h⟩ := words_pre op l n d
    exact ⟨_, by show wordsT op l (n + d) ++ _ = _; rw [h, List.append_assoc]⟩
theorem getD_some {W : List (List UInt8)} {x : Nat} (h : x < W.length) : W[x]? = some (W.getD x []) := by
  rw [List.getD_eq_getElem?_getD, List.getElem?_eq_getElem h]; rfl
/-- The program's fields lie in an int. -/
theorem runI_range (op : Int) (W : List (List UInt8)) : ∀ d n l x, (∀ j : Nat, 0 ≤ rd l (j : Int) ∧ rd l (j : Int) ≤ 1000000000) → ∀ j : Nat, 0 ≤ rd (runI op W d n l x) (j : Int) ∧ rd (runI op W d n l x) (j : Int) ≤ 1000000000
  | 0, n, l, x, h, j => h j
  | d + 1, n, l, x, h, j => by
    unfold runI
    split
    · refine runI_range op W d _ _ _ (fun i => ?_) j
      rw [rd_set]
      split
      · rcases puB_cases (W.getD x []) with ⟨n, h0, h1, e, hp⟩ | ⟨hp, _⟩ <;> rw [hp]
        · exact ⟨h0, h1⟩
        · exact ⟨by decide, by decide⟩
      · exact h i
    · exact runI_range op W d _ _ _ h j
/-- A text of the program's own is read back. -/
theorem runI_back (op : Int) (l : List Int) (hr : ∀ n : Nat, n < 3 → 0 ≤ rd l (n : Int) ∧ rd l (n : Int) ≤ 1000000000) : ∀ (d n : Nat) (m : List Int) (x : Nat), n + d = 3 → m.length = 3 → x = (wordsT op l n).length → (∀ j : Nat, j < n → rd m (j : Int) = rd l (j : Int)) → (∀ j : Nat, n ≤ j → j < 3 → flB op j = false → rd m (j : Int) = rd l (j : Int)) →
    ∀ j : Nat, j < 3 → rd (runI op (wordsT op l 3) d n m x) (j : Int) = rd l (j : Int)
  | 0, n, m, x, hn, hl, hx, h1, h2, j, hj => h1 j (by omega)
  | d + 1, n, m, x, hn, hl, hx, h1, h2, j, hj => by
    obtain ⟨r, hr2⟩ := words_pre op l (n + 1) d
    have h3 : n + 1 + d = 3 := by omega
    rw [h3] at hr2
    cases hf : flB op n with
    | false =>
      have hw : wordsT op l (n + 1) = wordsT op l n := by
        show wordsT op l n ++ _ = _
        rw [hf, if_neg (by decide), List.append_nil]
      rw [runI, hf, if_neg (fun q => by cases q.1)]
      refine runI_back op l hr d (n + 1) m x (by omega) hl (by rw [hw]; exact hx) (fun i hi => ?_) (fun i hi => h2 i (by omega)) j hj
      by_cases e : i = n
      · subst e; exact h2 i (Nat.le_refl _) (by omega) hf
      · exact h1 i (by omega)
    | true =>
      have hw : wordsT op l (n + 1) = wordsT op l n ++ [Lib.itoa (rd l (n : Int))] := by
        show wordsT op l n ++ _ = _
        rw [hf, if_pos rfl]
      have hlt : x < (wordsT op l 3).length := by rw [hr2, hw]; simp; omega
      have hg : (wordsT op l 3).getD x [] = Lib.itoa (rd l (n : Int)) := by
        rw [List.getD_eq_getElem?_getD, hr2, hw, List.append_assoc, List.getElem?_append_right (by omega), hx, Nat.sub_self]; rfl
      have hv := hr n (by omega)
      rw [runI, hf, if_pos ⟨rfl, hlt⟩, hg, puB_itoa hv.1 hv.2]
      refine runI_back op l hr d (n + 1) _ (x + 1) (by omega) (by simpa using hl) (by rw [hw, hx]; simp) (fun i hi => ?_) (fun i hi hi3 hfi => ?_) j hj
      · rw [rd_set]
        by_cases e : n = i
        · subst e; rw [if_pos ⟨rfl, by omega⟩]
        · rw [if_neg (fun q => e q.1)]; exact h1 i (by omega)
      · rw [rd_set, if_neg (fun q => by omega)]; exact h2 i (by omega) hi3 hfi
theorem getD_mk {W : List (List UInt8)} {x : Nat} (h : x < W.length) : (W.map mkB).getD x ByteArray.empty = mkB (W.getD x []) := by
  rw [List.getD_eq_getElem?_getD, List.getElem?_map, getD_some h]; rfl
theorem put_set (t : Int × Int × Int) (n : Nat) (hn : n < 3) (v : Int) : [(impl_ParseIns.put t n v).1, (impl_ParseIns.put t n v).2.1, (impl_ParseIns.put t n v).2.2] = [t.1, t.2.1, t.2.2].set n v := by
  have hc : n = 0 ∨ n = 1 ∨ n = 2 := by omega
  rcases hc with rfl | rfl | rfl <;> rfl
def tri (l : List Int) : Int × Int × Int := (rd l 0, rd l 1, rd l 2)
theorem go_val (op : Int) (W : List (List UInt8)) (hW : ∀ w ∈ W, w.length ≤ 281474976710656) : ∀ (cs : List UInt8) (n x : Nat) (t : Int × Int × Int), n + cs.length = 3 → (∀ (i : Nat) c, cs[i]? = some c → (c.toNat = 45 ↔ flB op (n + i) = false)) →
    impl_ParseIns.go (W.map mkB) cs n x t = some (tri (runI op W cs.length n [t.1, t.2.1, t.2.2] x))
  | [], n, x, t, hn, hc => rfl
  | c :: cs, n, x, t, hn, hc => by
    have h0 : c.toNat = 45 ↔ flB op n = false := hc 0 c rfl
    have hc' : ∀ (i : Nat) d, cs[i]? = some d → (d.toNat = 45 ↔ flB op (n + 1 + i) = false) := fun i d hd => by
      have := hc (i + 1) d (by simpa using hd)
      rw [show n + (i + 1) = n + 1 + i by omega] at this
      exact this
    have hn' : n + 1 + cs.length = 3 := by simp at hn; omega
    rw [impl_ParseIns.go, List.length_map, List.length_cons, runI]
    by_cases h : flB op n = true ∧ x < W.length
    · have h1 : c.toNat ≠ 45 ∧ x < W.length := ⟨fun e => (by have q := h.1; rw [h0.1 e] at q; cases q), h.2⟩
      have hm : W.getD x [] ∈ W := List.mem_of_getElem? (getD_some h.2)
      rw [if_pos h, if_pos h1, getD_mk h.2, implUint_val (by rw [mkB_size]; exact hW _ hm), Option.bind_some, mkB_list, ← put_set t n (by omega)]
      exact go_val op W hW cs (n + 1) (x + 1) _ hn' hc'
    · have h1 : ¬ (c.toNat ≠ 45 ∧ x < W.length) := fun q => h ⟨by
        cases hf : flB op n with
        | true => rfl
        | false => exact absurd (h0.2 hf) q.1, q.2⟩
      rw [if_neg h, if_neg h1]
      exact go_val op W hW cs (n + 1) x t hn' hc'
theorem idx_cases (x : ByteArray) : ∀ (zs : List ByteArray) (i : Nat), (∃ k, k < zs.length ∧ Lib.idxFromS zs x i = ((i + k : Nat) : Int) ∧ zs.getD k ByteArray.empty = x ∧ ∀ j, j < k → zs.getD j ByteArray.empty ≠ x) ∨ (Lib.idxFromS zs x i = -1 ∧ ∀ j, j < zs.length → zs.getD j ByteArray.empty ≠ x)
  | [], i => .inr ⟨rfl, fun j hj => by simp at hj⟩
  | z :: zs, i => by
    by_cases hz : z = x
    · refine .inl ⟨0, by simp, ?_, hz, fun j hj => by omega⟩
      simp [Lib.idxFromS, hz]
    · have e : Lib.idxFromS (z :: zs) x i = Lib.idxFromS zs x (i + 1) := by simp [Lib.idxFromS, hz]
      rcases idx_cases x zs (i + 1) with ⟨k, hk, h1, h2, h3⟩ | ⟨h1, h2⟩
      · refine .inl ⟨k + 1, by simp; omega, by rw [e, h1]; congr 1; omega, h2, fun j hj => ?_⟩
        cases j with
        | zero => exact hz
        | succ j => exact h3 j (by omega)
      · refine .inr ⟨by rw [e, h1], fun j hj => ?_⟩
        cases j with
        | zero => exact hz
        | succ j => exact h2 j (by simpa using hj)
theorem name_at (j : Nat) : nameT (j : Int) = namesT.getD j ByteArray.empty := by unfold nameT rdOf; rw [Int.toNat_natCast]
theorem names_len : namesT.length = 17 := rfl
theorem join_len (w : List UInt8) (W : List (List UInt8)) (h : ((w :: W).map (·.length)).sum ≤ 600) (h2 : (w :: W).length ≤ 24) : (Lib.join (w :: W) [32]).length ≤ 700 := by
  rw [Lib.join_length]
  unfold Lib.lens
  simp at h2 ⊢ h
  omega
theorem insOk_zero {op a b c s : Int} (h : insOkB op a b c s = true) (n : Nat) (hn : n < 3) (hf : flB op n = false) : rd [a, b, c] (n : Int) = 0 := by
  obtain ⟨o0, o1⟩ := insOk_op h
  have hc : n = 0 ∨ n = 1 ∨ n = 2 := by omega
  rcases op_cases o0 o1 with rfl | rfl | rfl | rfl | rfl | rfl | rfl | rfl | rfl | rfl | rfl | rfl | rfl | rfl | rfl | rfl | rfl <;> rcases hc with rfl | rfl | rfl <;>
    first
      | (exfalso; revert hf; decide +kernel)
      | (simp [insOkB] at h; show _ = (0 : Int); first | exact h.2.1.1 | exact h.2.1.2 | exact h.2.2 | exact h.2.1 | omega)
theorem insOk_range {op a b c : Int} (h : insOkB op a b c 32 = true) (n : Nat) (hn : n < 3) : 0 ≤ rd [a, b, c] (n : Int) ∧ rd [a, b, c] (n : Int) ≤ 65535 := by
  have h2 : (0 ≤ a ∧ a ≤ 65535) ∧ (0 ≤ b ∧ b ≤ 65535) ∧ (0 ≤ c ∧ c ≤ 65535) := by
    unfold insOkB at h
    simp only [inB, Bool.and_eq_true, decide_eq_true_eq] at h
    obtain ⟨_, h⟩ := h
    split at h
    · simp at h; omega
    split at h
    · simp at h; omega
    split at h
    · simp at h; omega
    split at h
    · simp at h; omega
    split at h
    · simp at h; omega
    split at h
    · simp at h; omega
    split at h
    · simp at h; omega
    · cases h
  have hc : n = 0 ∨ n = 1 ∨ n = 2 := by omega
  rcases hc with rfl | rfl | rfl
  · exact h2.1
  · exact h2.2.1
  · exact h2.2.2
theorem tri_rd (L : List Int) (j : Nat) (hj : j < 3) : rd [rd L 0, rd L 1, rd L 2] (j : Int) = rd L (j : Int) := by
  have hc : j = 0 ∨ j = 1 ∨ j = 2 := by omega
  rcases hc with rfl | rfl | rfl <;> rfl
theorem fieldsGo_pad : ∀ (l cur : List UInt8), Lib.fieldsGo cur (l ++ [32]) = Lib.fieldsGo cur l
  | [], cur => by
    by_cases h : cur = []
    · subst h
      rw [List.nil_append, Lib.fieldsGo_sp _ _ isSp_32]
    · rw [List.nil_append, Lib.fieldsGo_end _ _ _ isSp_32 h]
      simp [Lib.fieldsGo, h]
  | c :: l, cur => by
    rw [List.cons_append]
    cases hs : Lib.isSp c with
    | false => rw [Lib.fieldsGo_more _ _ _ hs, Lib.fieldsGo_more _ _ _ hs, fieldsGo_pad l]
    | true =>
      by_cases h : cur = []
      · subst h
        rw [Lib.fieldsGo_sp _ _ hs, Lib.fieldsGo_sp _ _ hs, fieldsGo_pad l]
      · rw [Lib.fieldsGo_end _ _ _ hs h, Lib.fieldsGo_end _ _ _ hs h, fieldsGo_pad l]
theorem text_join {op x y z : Int} (hok : insOkB op x y z 32 = true) : textT op x y z = Lib.join (wordsT op [x, y, z] 3) [32] := by
  unfold textT; rw [if_pos hok, part_join]
theorem text_len {op x y z : Int} (hok : insOkB op x y z 32 = true) : (textT op x y z).length ≤ 70 := by
  obtain ⟨o0, o1⟩ := insOk_op hok
  have := part_len o0 o1 (l := [x, y, z]) (fun n hn => by have := insOk_range hok n hn; omega) 3 (Nat.le_refl _)
  unfold textT; rw [if_pos hok]; exact this
theorem text_all {op x y z : Int} (hok : insOkB op x y z 32 = true) : (textT op x y z).all okC = true := by
  obtain ⟨o0, o1⟩ := insOk_op hok
  rw [List.all_eq_true]
  intro b hb
  rw [text_join hok] at hb
  obtain ⟨r, hr⟩ := words_cons op [x, y, z] 3
  have hwy := words_bytes o0 o1 [x, y, z] 3
  rw [hr] at hb hwy
  rw [Lib.join_cons] at hb
  rcases List.mem_append.1 hb with hb | hb
  · exact (okC_of ((hwy _ List.mem_cons_self).2 b hb)).1
  · unfold Lib.joinTail at hb
    obtain ⟨v, hv, hbv⟩ := List.mem_flatten.1 hb
    obtain ⟨w, hw, rfl⟩ := List.mem_map.1 hv
    rcases List.mem_append.1 hbv with h1 | h1
    · rw [List.mem_singleton.1 h1]; rfl
    · exact (okC_of ((hwy w (List.mem_cons_of_mem _ hw)).2 b h1)).1
theorem words_count (op : Int) (l : List Int) : (wordsT op l 3).length ≤ 24 := by
  show (((([(nameT op).data.toList] ++ _) ++ _) ++ _) : List (List UInt8)).length ≤ 24
  simp only [List.length_append]
  repeat' split
  all_goals simp
theorem split_of {op x y z : Int} (hok : insOkB op x y z 32 = true) {s : List UInt8} (h1 : s.length ≤ 600) (h2 : s.all okC = true) (h3 : Lib.fields s = Lib.fields (textT op x y z)) : splitB s = (wordsT op [x, y, z] 3, true) := by
  obtain ⟨o0, o1⟩ := insOk_op hok
  have hf : Lib.fields s = wordsT op [x, y, z] 3 := by rw [h3, text_join hok]; exact fields_join (words_wordB o0 o1 [x, y, z] 3)
  unfold splitB
  rw [if_pos ⟨h1, h2⟩, hf, if_pos (words_count _ _)]
theorem split_text {op x y z : Int} (hok : insOkB op x y z 32 = true) : splitB (textT op x y z) = (wordsT op [x, y, z] 3, true) :=
  split_of hok (by have := text_len hok; omega) (text_all hok) rfl
theorem split_pad {op x y z : Int} (hok : insOkB op x y z 32 = true) : splitB (32 :: 32 :: (textT op x y z ++ [32])) = (wordsT op [x, y, z] 3, true) := by
  refine split_of hok (by have := text_len hok; simp; omega) ?_ ?_
  · rw [List.all_cons, List.all_cons, List.all_append, text_all hok]; rfl
  · unfold Lib.fields
    rw [Lib.fieldsGo_sp _ _ isSp_32, Lib.fieldsGo_sp _ _ isSp_32, fieldsGo_pad]
theorem idx_name {op : Int} (h0 : 0 ≤ op) (h1 : op ≤ 16) : Lib.idxOfS namesT (nameT op) = op := by
  rcases op_cases h0 h1 with rfl | rfl | rfl | rfl | rfl | rfl | rfl | rfl | rfl | rfl | rfl | rfl | rfl | rfl | rfl | rfl | rfl <;> decide +kernel
/-- A line whose fields are those of a valid instruction's text gives that instruction. -/
theorem parse_back {a : ByteArray} {op x y z : Int} (hok : insOkB op x y z 32 = true) (hs : splitB a.data.toList = (wordsT op [x, y, z] 3, true)) : Ev (fun k => impl_ParseIns.f k a) (op, x, y, z, true) := by
  obtain ⟨o0, o1⟩ := insOk_op hok
  have hI := implSplit_val a
  rw [hs] at hI
  have hwy := words_bytes o0 o1 [x, y, z] 3
  obtain ⟨r, hr⟩ := words_cons op [x, y, z] 3
  have hcnt := words_count op [x, y, z]
  have hjl : (Lib.join (wordsT op [x, y, z] 3) [32]).length ≤ 70 := by rw [← text_join hok]; exact text_len hok
  have hjne : Lib.join (wordsT op [x, y, z] 3) [32] ≠ [] := by
    rw [hr, Lib.join_cons]
    intro e
    exact (name_bytes o0 o1).1 (List.append_eq_nil_iff.1 e).1
  have hwl : ∀ w ∈ wordsT op [x, y, z] 3, w.length ≤ 281474976710656 := by
    intro w hw
    have key : ∀ n, n ≤ 3 → ∀ w ∈ wordsT op [x, y, z] n, w.length ≤ 20 := by
      intro n
      induction n with
      | zero => intro _ w hw; rw [List.mem_singleton.1 hw]; have := name_len o0 o1; omega
      | succ n ih =>
        intro hn w hw
        rcases List.mem_append.1 hw with hw | hw
        · exact ih (by omega) w hw
        · split at hw
          · rw [List.mem_singleton.1 hw]
            have := insOk_range hok n (by omega)
            exact itoa_len21 (by omega) (by omega)
          · cases hw
    have := key 3 (Nat.le_refl _) w hw
    omega
  obtain ⟨fm, hfm, hfs, hfl⟩ := formOf_val o0 o1
  have hL3 : fm.data.toList.length = 3 := by rw [← size_list]; exact hfs
  have hgo := go_val op (wordsT op [x, y, z] 3) hwl fm.data.toList 0 1 (0, 0, 0) (by omega) (fun i c hc => by
    have hi : i < 3 := by have := (List.getElem?_eq_some_iff.1 hc).1; omega
    have h := hfl i hi
    rw [bt_list hc] at h
    rw [Nat.zero_add, ← h]; omega)
  rw [hL3] at hgo
  have hback := runI_back op [x, y, z] (fun n hn => by have := insOk_range hok n hn; omega) 3 0 [0, 0, 0] 1 (by omega) rfl rfl (fun j hj => by omega) (fun j _ hj hf => by
    rw [insOk_zero hok j hj hf]
    have hc : j = 0 ∨ j = 1 ∨ j = 2 := by omega
    rcases hc with rfl | rfl | rfl <;> rfl)
  have htri : tri (runI op (wordsT op [x, y, z] 3) 3 0 [0, 0, 0] 1) = (x, y, z) := by
    have j0 : rd (runI op (wordsT op [x, y, z] 3) 3 0 [0, 0, 0] 1) 0 = x := hback 0 (by omega)
    have j1 : rd (runI op (wordsT op [x, y, z] 3) 3 0 [0, 0, 0] 1) 1 = y := hback 1 (by omega)
    have j2 : rd (runI op (wordsT op [x, y, z] 3) 3 0 [0, 0, 0] 1) 2 = z := hback 2 (by omega)
    unfold tri
    rw [j0, j1, j2]
  have hx := insOk_range hok 0 (by omega)
  have hy := insOk_range hok 1 (by omega)
  have hz := insOk_range hok 2 (by omega)
  have hx : 0 ≤ x ∧ x ≤ 65535 := hx
  have hy : 0 ≤ y ∧ y ≤ 65535 := hy
  have hz : 0 ≤ z ∧ z ≤ 65535 := hz
  obtain ⟨K, hK⟩ := formatIns_ev (op := op) (a := x) (b := y) (c := z) (by omega) (by omega) (by omega)
  have hg0 : ((wordsT op [x, y, z] 3).map mkB).getD 0 ByteArray.empty = nameT op := by rw [hr]; exact mkB_data _
  have hmm : ((wordsT op [x, y, z] 3).map mkB).map (·.data.toList) = wordsT op [x, y, z] 3 := by
    rw [List.map_map]
    exact (List.map_congr_left (fun w _ => mkB_list w)).trans (List.map_id _)
  have hWl : 0 < (wordsT op [x, y, z] 3).length := by rw [hr]; simp
  refine ⟨K, fun k hk => ?_⟩
  have e : impl_FormatIns.f k op x y z = some (mkB (textT op x y z)) := hK k hk
  show impl_ParseIns.f k a = some _
  unfold impl_ParseIns.f
  rw [hI, Option.bind_some, if_pos rfl, List.length_map, if_neg (show ¬ (wordsT op [x, y, z] 3).length = 0 by omega), show impl_opNames.f = some namesT from rfl, Option.bind_some, hg0, idx_name o0 o1, hfm, Option.bind_some, hmm, if_pos ⟨by omega, by decide, show (wordsT op [x, y, z] 3).length ≤ 140737488355328 by omega, by omega⟩, hgo, Option.bind_some, htri, e, Option.bind_some, toList_data, mkB_list, text_join hok, if_neg hjne, if_pos rfl]
end Go.Proofs.YtionemdnfhcfpaaDoor.HL
/- Whether a program is valid, as the program tells it. No condition. -/
set_option linter.unusedVariables false
set_option linter.unusedSimpArgs false
namespace Go.Proofs.YtionemdnfhcfpaaDoor.HL
open Go Go.RowKit Go.Proofs.YtionemdnfhcfpaaDoorW.PrintWords Go.Proofs.YtionemdnfhcfpaaDoorW.PrintLast Go.Proofs.YtionemdnfhcfpaaDoor.Aid

def okIns (m : Nat) (x : S31) : Bool := insOkB x.f0 x.f1 x.f2 x.f3 (m : Int)
def progB (l : List S31) : Bool := decide (l.length ≤ 32) && l.all (okIns l.length)
theorem rdP_at {l : List S31} {n : Nat} (h : n < l.length) : l[n]? = some (rd_T31 l (n : Int)) := by
  simp [rd_T31, List.getD_eq_getElem?_getD, h]
theorem progOk_val (l : List S31) : impl_ProgramOk.f l = some (progB l) := by
  unfold impl_ProgramOk.f progB
  by_cases h : l.length ≤ 32
  · have hall : l.all (fun x => (impl_InsOk.f x.f0 x.f1 x.f2 x.f3 (l.length : Int)).isSome) = true := by
      rw [List.all_eq_true]; intro x _; rw [insOk_val]; rfl
    rw [if_pos h, if_pos hall]
    simp only [h, decide_true, Bool.true_and]
    congr 1
    rw [List.any_eq_not_all_not, Bool.not_not]
    congr 1
    funext x
    unfold impl_ProgramOk.bad okIns
    rw [insOk_val]
    cases insOkB x.f0 x.f1 x.f2 x.f3 (l.length : Int) <;> rfl
  · rw [if_neg h]
    simp [h]
end Go.Proofs.YtionemdnfhcfpaaDoor.HL
/- The program that the lines of a valid program give. No condition. -/
set_option linter.unusedVariables false
set_option linter.unusedSimpArgs false
namespace Go.Proofs.YtionemdnfhcfpaaDoor.HL
open Go Go.RowKit Go.Proofs.YtionemdnfhcfpaaDoorW.PrintWords Go.Proofs.YtionemdnfhcfpaaDoorW.PrintLast Go.Proofs.YtionemdnfhcfpaaDoor.Aid

def lineT (x : S31) : ByteArray := mkB (textT x.f0 x.f1 x.f2 x.f3)
theorem inB_mono {n s t : Int} (h : inB n 0 s = true) (hs : s ≤ t) : inB n 0 t = true := by
  unfold inB at h ⊢
  simp only [Bool.and_eq_true, decide_eq_true_eq] at h ⊢
  exact ⟨h.1, by omega⟩
/-- A valid instruction stays valid where the program grows. -/
theorem insOk_mono {op a b c s t : Int} (h : insOkB op a b c s = true) (hs : s ≤ t) (ht : t ≤ 32) : insOkB op a b c t = true := by
  unfold insOkB at h ⊢
  rw [Bool.and_eq_true] at h ⊢
  obtain ⟨h0, h1⟩ := h
  have hst : inB t 0 32 = true := by
    unfold inB at h0 ⊢
    simp only [Bool.and_eq_true, decide_eq_true_eq] at h0 ⊢
    exact ⟨by omega, ht⟩
  refine ⟨hst, ?_⟩
  repeat' split at h1
  all_goals first
    | (simp_all; done)
    | (simp only [Bool.and_eq_true] at h1 ⊢; simp_all [inB_mono (n := b) (s := s) (t := t)]; done)
    | (simp only [Bool.and_eq_true] at h1 ⊢; have := fun q => inB_mono (n := b) q hs; simp_all)
theorem line_at {p : List S31} {n : Nat} (h : n < p.length) : rdOf ByteArray.empty (p.map lineT) (n : Int) = lineT (rd_T31 p (n : Int)) := by
  unfold rdOf
  rw [List.getD_eq_getElem?_getD, Int.toNat_natCast, List.getElem?_map, rdP_at h]; rfl
theorem take_line {p : List S31} {n : Nat} (hn : n < p.length) : (p.take (n + 1)).map lineT = (p.take n).map lineT ++ [lineT (rd_T31 p (n : Int))] := by
  rw [List.take_add_one, rdP_at hn]
  simp
theorem prog_at {p : List S31} (hp : progB p = true) {n : Nat} (h : n < p.length) : insOkB (rd_T31 p (n : Int)).f0 (rd_T31 p (n : Int)).f1 (rd_T31 p (n : Int)).f2 (rd_T31 p (n : Int)).f3 32 = true ∧ p.length ≤ 32 := by
  unfold progB at hp
  rw [Bool.and_eq_true] at hp
  have hl : p.length ≤ 32 := of_decide_eq_true hp.1
  have hm := List.all_eq_true.1 hp.2 _ (List.mem_of_getElem? (rdP_at h))
  exact ⟨insOk_mono hm (by omega) (by omega), hl⟩
theorem format_ev {p : List S31} (hp : progB p = true) : Ev (fun k => impl_FormatProgram.f k p) (p.map lineT, true) := by
  have hl : p.length ≤ 32 := by
    unfold progB at hp
    rw [Bool.and_eq_true] at hp
    exact of_decide_eq_true hp.1
  have h := loop_to (fun k n (s : List ByteArray) => impl_FormatProgram.l0 k s p (p.length : Int) (n : Int)) p.length (fun n s => s = (p.take n).map lineT) (p.map lineT, true)
    (fun n s hn hI => Or.inl ⟨(p.take (n + 1)).map lineT, rfl, by
      have hs : s = (p.take n).map lineT := hI
      subst hs
      obtain ⟨hok, _⟩ := prog_at hp hn
      have r0 : 0 ≤ (rd_T31 p (n : Int)).f1 ∧ (rd_T31 p (n : Int)).f1 ≤ 65535 := insOk_range hok 0 (by omega)
      have r1 : 0 ≤ (rd_T31 p (n : Int)).f2 ∧ (rd_T31 p (n : Int)).f2 ≤ 65535 := insOk_range hok 1 (by omega)
      have r2 : 0 ≤ (rd_T31 p (n : Int)).f3 ∧ (rd_T31 p (n : Int)).f3 ≤ 65535 := insOk_range hok 2 (by omega)
      obtain ⟨K, hK⟩ := formatIns_ev (op := (rd_T31 p (n : Int)).f0) (a := (rd_T31 p (n : Int)).f1) (b := (rd_T31 p (n : Int)).f2) (c := (rd_T31 p (n : Int)).f3) (by omega) (by omega) (by omega)
      refine ⟨K, fun k hk => ?_⟩
      have e : impl_FormatIns.f k (rd_T31 p (n : Int)).f0 (rd_T31 p (n : Int)).f1 (rd_T31 p (n : Int)).f2 (rd_T31 p (n : Int)).f3 = some (lineT (rd_T31 p (n : Int))) := hK k hk
      have htl : ((p.take n).map lineT).length ≤ 32 := by simp; omega
      simp only [impl_FormatProgram.l0]
      rw [if_pos (by omega), if_pos (by omega), if_pos (by omega), e, Option.bind_some, if_pos (by omega), wrap_succ hn (by omega), take_line hn]⟩)
    (fun s hI => ⟨0, fun k _ => by
      have hs : s = (p.take p.length).map lineT := hI
      rw [List.take_length] at hs
      subst hs
      simp only [impl_FormatProgram.l0]
      rw [if_neg (by omega)]⟩) 0 [] (Nat.zero_le _) rfl
  refine Ev.congr (fun k => ?_) h
  unfold impl_FormatProgram.f
  rw [progOk_val, hp, Option.bind_some, if_pos rfl]
  rfl
theorem parseAll_ev {p : List S31} (hp : progB p = true) : Ev (fun k => impl_ParseProgram.f k (p.map lineT)) (p, true) := by
  have hl : p.length ≤ 32 := by
    unfold progB at hp
    rw [Bool.and_eq_true] at hp
    exact of_decide_eq_true hp.1
  have hm : (p.map lineT).length = p.length := List.length_map ..
  have h := loop_to (fun k n (s : List S31) => impl_ParseProgram.l0 k s (p.map lineT) (p.length : Int) (n : Int)) p.length (fun n s => s = p.take n) (p, true)
    (fun n s hn hI => Or.inl ⟨p.take (n + 1), rfl, by
      have hs : s = p.take n := hI
      subst hs
      obtain ⟨hok, _⟩ := prog_at hp hn
      obtain ⟨K, hK⟩ := parse_back (a := lineT (rd_T31 p (n : Int))) hok (by
        unfold lineT
        rw [mkB_list]
        exact split_text hok)
      refine ⟨K, fun k hk => ?_⟩
      have e : impl_ParseIns.f k (rdOf ByteArray.empty (p.map lineT) (n : Int)) = some ((rd_T31 p (n : Int)).f0, (rd_T31 p (n : Int)).f1, (rd_T31 p (n : Int)).f2, (rd_T31 p (n : Int)).f3, true) := by
        rw [line_at hn]; exact hK k hk
      have htl : (p.take n).length ≤ 32 := by simp; omega
      have htk : p.take (n + 1) = p.take n ++ [rd_T31 p (n : Int)] := by rw [List.take_add_one, rdP_at hn]; rfl
      simp only [impl_ParseProgram.l0]
      rw [if_pos (by omega), if_pos (by omega), if_pos (by omega), e, Option.bind_some, if_pos rfl, if_pos (by omega), wrap_succ hn (by omega), htk]⟩)
    (fun s hI => ⟨0, fun k _ => by
      have hs : s = p.take p.length := hI
      rw [List.take_length] at hs
      subst hs
      simp only [impl_ParseProgram.l0]
      rw [if_neg (by omega), progOk_val, hp, Option.bind_some, if_pos rfl]⟩) 0 [] (Nat.zero_le _) rfl
  refine Ev.congr (fun k => ?_) h
  unfold impl_ParseProgram.f
  rw [hm]
  rfl
end Go.Proofs.YtionemdnfhcfpaaDoor.HL
/- The reference's draws: each gives a number of its range, whatever the bytes. No condition. -/
set_option linter.unusedVariables false
set_option linter.unusedSimpArgs false
namespace Go.Proofs.YtionemdnfhcfpaaDoor.HL
open Go Go.RowKit Go.Proofs.YtionemdnfhcfpaaDoorW.PrintWords Go.Proofs.YtionemdnfhcfpaaDoorW.PrintLast Go.Proofs.YtionemdnfhcfpaaDoor.Aid

/-- A reader's state: its place lies in the code or behind it. -/
def Rok (b : List Int) (i : Int) : Prop := 0 ≤ i ∧ i ≤ 140737488355328
theorem byte_ok {b : List Int} (hb : b.length ≤ 140737488351232) {i h : Int} (hi : Rok b i) : ∃ x i' h', spec_l01Byte.f b i h = some (x, i', h') ∧ 0 ≤ x ∧ x ≤ 255 ∧ Rok b i' := by
  unfold spec_l01Byte.f
  obtain ⟨h0, h1⟩ := hi
  by_cases hlt : i < (b.length : Int)
  · rw [if_pos hlt, if_pos h0]
    refine ⟨_, _, _, rfl, ?_, ?_, ?_⟩
    · rw [and_255]; omega
    · rw [and_255]; omega
    · rw [wrap_id (by omega) (by omega)]
      exact ⟨by omega, by omega⟩
  · rw [if_neg hlt]
    refine ⟨_, _, _, rfl, ?_, ?_, h0, h1⟩
    · rw [and_255]; omega
    · rw [and_255]; omega
theorem tmod_below {x n : Int} (h0 : 0 ≤ x) (hn : 0 < n) : 0 ≤ x.tmod n ∧ x.tmod n < n := by
  rw [Int.tmod_eq_emod_of_nonneg h0]
  exact ⟨Int.emod_nonneg _ (by omega), Int.emod_lt_of_pos _ hn⟩
/-- A draw below n. -/
theorem below_ok {b : List Int} (hb : b.length ≤ 140737488351232) {i h : Int} (hi : Rok b i) (n : Int) : ∃ x i' h', spec_l01Below.f b i h n = some (x, i', h') ∧ 0 ≤ x ∧ (0 < n → x < n) ∧ (n ≤ 0 → x = 0) ∧ Rok b i' := by
  unfold spec_l01Below.f
  by_cases h0 : n ≤ 0
  · rw [if_pos h0]
    exact ⟨_, _, _, rfl, by omega, by omega, fun _ => rfl, hi⟩
  · rw [if_neg h0]
    by_cases h1 : n ≤ 256
    · rw [if_pos h1]
      obtain ⟨x, i1, g1, e, hx0, hx1, hi1⟩ := byte_ok (h := h) hb hi
      rw [e, Option.bind_some, if_neg (by omega)]
      have := tmod_below (x := x) (n := n) hx0 (by omega)
      exact ⟨_, _, _, rfl, this.1, fun _ => this.2, by omega, hi1⟩
    · rw [if_neg h1]
      obtain ⟨x, i1, g1, e, hx0, hx1, hi1⟩ := byte_ok (h := h) hb hi
      obtain ⟨y, i2, g2, e2, hy0, hy1, hi2⟩ := byte_ok (h := g1) hb hi1
      obtain ⟨z, i3, g3, e3, hz0, hz1, hi3⟩ := byte_ok (h := g2) hb hi2
      obtain ⟨u, i4, g4, e4, hu0, hu1, hi4⟩ := byte_ok (h := g3) hb hi3
      simp only [e, e2, e3, e4, Option.bind_some]
      rw [if_neg (by omega)]
      have hw : 0 ≤ wrap64 (wrap64 (wrap64 (wrap64 (x * 16777216) + wrap64 (y * 65536)) + wrap64 (z * 256)) + u) := by
        unfold wrap64; omega
      have := tmod_below (x := wrap64 (wrap64 (wrap64 (wrap64 (x * 16777216) + wrap64 (y * 65536)) + wrap64 (z * 256)) + u)) (n := n) hw (by omega)
      exact ⟨_, _, _, rfl, this.1, fun _ => this.2, by omega, hi4⟩
/-- A new reader. -/
theorem new_ok (b : List Int) : ∃ i h, Ev (fun k => spec_l01New.f k b) (b, i, h) ∧ Rok b i := by
  have key := loop_ev (fun k n (s : Int) => spec_l01New.l0 k b s (n : Int)) (min b.length 4000) (fun _ _ => True) (fun r : List Int × Int × Int => ∃ h, r = (b, 0, h))
    (fun n s hn _ => Or.inl ⟨Go.bits .and .i64 (wrap64 ((wrap64 ((wrap64 (s * 131)) + (wrap64 (rd b (n : Int))))) + 7)) 1073741823, trivial, 0, fun k _ => by
      simp only [spec_l01New.l0]
      rw [if_pos (by omega), if_pos (by omega), if_pos (by omega), wrap_succ (N := 4000) (by omega) (by omega)]⟩)
    (fun s _ => ⟨(b, 0, s), ⟨s, rfl⟩, 0, fun k _ => by
      simp only [spec_l01New.l0]
      by_cases h : b.length ≤ 4000
      · rw [if_neg (by omega)]
      · rw [if_pos (by omega), if_neg (by omega)]⟩) 0 (wrap64 (98561 + (b.length : Int))) (Nat.zero_le _) trivial
  obtain ⟨r, ⟨h, rfl⟩, hev⟩ := key
  exact ⟨0, h, hev, by unfold Rok; omega⟩
end Go.Proofs.YtionemdnfhcfpaaDoor.HL
/- A drawn quiet program is valid: its texts are those of valid instructions. No condition but a length that fits. -/
set_option linter.unusedVariables false
set_option linter.unusedSimpArgs false
namespace Go.Proofs.YtionemdnfhcfpaaDoor.HL
open Go Go.RowKit Go.Proofs.YtionemdnfhcfpaaDoorW.PrintWords Go.Proofs.YtionemdnfhcfpaaDoorW.PrintLast Go.Proofs.YtionemdnfhcfpaaDoor.Aid

theorem onceQ_ok {b : List Int} (hb : b.length ≤ 140737488351232) {i h : Int} (hi : Rok b i) (n : Int) : ∃ x i' h', spec_l01Once.f b i h n = some (x, i', h') ∧ Rok b i' := by
  unfold spec_l01Once.f
  obtain ⟨x, i', h', e, _, _, _, hi'⟩ := below_ok (h := h) hb hi n
  rw [e, Option.bind_some]
  exact ⟨_, _, _, rfl, hi'⟩
def GP (p : List S31) : Prop := p.length ≤ 32 ∧ ∀ x ∈ p, okIns p.length x = true
theorem okIns_mono {m n : Nat} {x : S31} (h : okIns m x = true) (hm : m ≤ n) (hn : n ≤ 32) : okIns n x = true := insOk_mono h (by omega) (by omega)
theorem GP_app {p e : List S31} (hp : GP p) (hl : (p ++ e).length ≤ 32) (he : ∀ x ∈ e, okIns (p ++ e).length x = true) : GP (p ++ e) := by
  refine ⟨hl, fun x hx => ?_⟩
  rcases List.mem_append.1 hx with h | h
  · exact okIns_mono (hp.2 x h) (by rw [List.length_append]; omega) hl
  · exact he x h
theorem GP_put {u v : List S31} {x y : S31} (hp : GP (u ++ x :: v)) (hy : okIns (u ++ x :: v).length y = true) : GP (u ++ y :: v) := by
  have hl : (u ++ y :: v).length = (u ++ x :: v).length := by simp
  refine ⟨by rw [hl]; exact hp.1, fun z hz => ?_⟩
  rw [hl]
  rcases List.mem_append.1 hz with h | h
  · exact hp.2 z (List.mem_append_left _ h)
  · rcases List.mem_cons.1 h with rfl | h
    · exact hy
    · exact hp.2 z (List.mem_append_right _ (List.mem_cons_of_mem _ h))
theorem rd_mid (u v : List S31) (x : S31) : rd_T31 (u ++ x :: v) ((u.length : Nat) : Int) = x := by
  have := rdP_at (l := u ++ x :: v) (n := u.length) (by simp)
  rw [List.getElem?_append_right (Nat.le_refl _), Nat.sub_self] at this
  exact (Option.some.inj this).symm
theorem set_mid (u v : List S31) (x y : S31) : (u ++ x :: v).set (((u.length : Nat) : Int) : Int).toNat y = u ++ y :: v := by
  rw [Int.toNat_natCast, List.set_append_right _ _ (Nat.le_refl _), Nat.sub_self]; rfl
theorem inB_of {n lo hi : Int} (h0 : lo ≤ n) (h1 : n ≤ hi) : inB n lo hi = true := by unfold inB; simp [h0, h1]
theorem ok_zero {m : Nat} (hm : m ≤ 32) {r t : Int} (h0 : 0 ≤ r) (h1 : r < 4) (h2 : 0 ≤ t) (h3 : t ≤ (m : Int)) : okIns m (⟨10, r, t, 0⟩ : S31) = true := by
  unfold okIns insOkB
  simp [inB_of (n := (m : Int)) (lo := 0) (hi := 32) (by omega) (by omega), inB_of (n := r) (lo := 0) (hi := 3) h0 (by omega), inB_of (n := t) (lo := 0) (hi := (m : Int)) h2 h3]
theorem ok_jump {m : Nat} (hm : m ≤ 32) {t : Int} (h2 : 0 ≤ t) (h3 : t ≤ (m : Int)) : okIns m (⟨11, 0, t, 0⟩ : S31) = true := by
  unfold okIns insOkB
  simp [inB_of (n := (m : Int)) (lo := 0) (hi := 32) (by omega) (by omega), inB_of (n := t) (lo := 0) (hi := (m : Int)) h2 h3]
theorem ok_self {m : Nat} (hm : m ≤ 32) {r : Int} (h0 : 0 ≤ r) (h1 : r < 4) : okIns m (⟨8, r, 0, 0⟩ : S31) = true := by
  unfold okIns insOkB
  simp [inB_of (n := (m : Int)) (lo := 0) (hi := 32) (by omega) (by omega), inB_of (n := r) (lo := 0) (hi := 3) h0 (by omega)]
theorem ok_set {m : Nat} (hm : m ≤ 32) {r t : Int} (h0 : 0 ≤ r) (h1 : r < 4) (h2 : 0 ≤ t) (h3 : t ≤ 65535) : okIns m (⟨1, r, t, 0⟩ : S31) = true := by
  unfold okIns insOkB
  simp [inB_of (n := (m : Int)) (lo := 0) (hi := 32) (by omega) (by omega), inB_of (n := r) (lo := 0) (hi := 3) h0 (by omega), inB_of (n := t) (lo := 0) (hi := 65535) h2 h3]
theorem ok_move {m : Nat} (hm : m ≤ 32) {r t : Int} (h0 : 0 ≤ r) (h1 : r < 4) (h2 : 0 ≤ t) (h3 : t < 4) : okIns m (⟨2, r, t, 0⟩ : S31) = true := by
  unfold okIns insOkB
  simp [inB_of (n := (m : Int)) (lo := 0) (hi := 32) (by omega) (by omega), inB_of (n := r) (lo := 0) (hi := 3) h0 (by omega), inB_of (n := t) (lo := 0) (hi := 3) h2 (by omega)]
theorem ok_three {m : Nat} (hm : m ≤ 32) {op r t u : Int} (ho : 3 ≤ op) (ho2 : op ≤ 9) (h8 : op ≠ 8) (h0 : 0 ≤ r) (h1 : r < 4) (h2 : 0 ≤ t) (h3 : t < 4) (h4 : 0 ≤ u) (h5 : u < 4) : okIns m (⟨op, r, t, u⟩ : S31) = true := by
  have e0 : ¬ (op = 0 ∨ op = 12 ∨ op = 16) := by omega
  have e1 : ¬ op = 1 := by omega
  have e2 : ¬ (op = 2 ∨ op = 13 ∨ op = 14 ∨ op = 15) := by omega
  have e4 : ¬ op = 10 := by omega
  have e5 : ¬ op = 11 := by omega
  unfold okIns insOkB
  rw [if_neg e0, if_neg e1, if_neg e2, if_neg h8, if_neg e4, if_neg e5, if_pos ⟨ho, ho2⟩]
  simp [inB_of (n := (m : Int)) (lo := 0) (hi := 32) (by omega) (by omega), inB_of (n := r) (lo := 0) (hi := 3) h0 (by omega), inB_of (n := t) (lo := 0) (hi := 3) h2 (by omega), inB_of (n := u) (lo := 0) (hi := 3) h4 (by omega)]
theorem plain_ok {b : List Int} (hb : b.length ≤ 140737488351232) {i h : Int} (hi : Rok b i) : ∃ o x y z i' h', spec_l04Plain.f b i h = some (o, x, y, z, i', h') ∧ Rok b i' ∧ ∀ m : Nat, m ≤ 32 → okIns m (⟨o, x, y, z⟩ : S31) = true := by
  unfold spec_l04Plain.f
  obtain ⟨q, i1, g1, e1, q0, q1, _, hi1⟩ := below_ok (h := h) hb hi 9
  have q1 := q1 (by decide)
  obtain ⟨r, i2, g2, e2, r0, r1, _, hi2⟩ := below_ok (h := g1) hb hi1 4
  have r1 := r1 (by decide)
  have hw : wrap64 (1 + q) = 1 + q := wrap_id (by omega) (by omega)
  rw [e1, Option.bind_some, e2, Option.bind_some]
  simp only [hw]
  by_cases c1 : 1 + q = 1
  · obtain ⟨t, i3, g3, e3, t0, t1, _, hi3⟩ := below_ok (h := g2) hb hi2 6
    have t1 := t1 (by decide)
    rw [if_pos c1, e3, Option.bind_some, c1]
    exact ⟨_, _, _, _, _, _, rfl, hi3, fun m hm => ok_set hm r0 r1 t0 (by omega)⟩
  rw [if_neg c1]
  by_cases c8 : 1 + q = 8
  · rw [if_pos c8, c8]
    exact ⟨_, _, _, _, _, _, rfl, hi2, fun m hm => ok_self hm r0 r1⟩
  rw [if_neg c8]
  obtain ⟨t, i3, g3, e3, t0, t1, _, hi3⟩ := below_ok (h := g2) hb hi2 4
  have t1 := t1 (by decide)
  by_cases c2 : 1 + q = 2
  · rw [if_pos c2, e3, Option.bind_some, c2]
    exact ⟨_, _, _, _, _, _, rfl, hi3, fun m hm => ok_move hm r0 r1 t0 t1⟩
  rw [if_neg c2, e3, Option.bind_some]
  obtain ⟨u, i4, g4, e4, u0, u1, _, hi4⟩ := below_ok (h := g3) hb hi3 4
  have u1 := u1 (by decide)
  rw [e4, Option.bind_some]
  exact ⟨_, _, _, _, _, _, rfl, hi4, fun m hm => ok_three hm (by omega) (by omega) c8 r0 r1 t0 t1 u0 u1⟩
/-- What a body at a depth does: it appends, and the program stays valid and short. -/
def BodyOk (b : List Int) (d : Nat) : Prop := ∀ (p : List S31) (i h : Int), Rok b i → GP p → p.length ≤ 25 → ∃ e i' h', Ev (fun k => spec_l05Body.f k b i h p (d : Int)) (p ++ e, i', h') ∧ Rok b i' ∧ GP (p ++ e) ∧ (p ++ e).length ≤ max p.length (20 + d)
def LoopOk (b : List Int) (d n : Nat) : Prop := ∀ (p : List S31) (i h : Int), Rok b i → GP p → p.length ≤ 25 → ∃ e i' h', Ev (fun k => spec_l05Body.l0 k p (d : Int) (n : Int) b i h) (p ++ e, i', h') ∧ Rok b i' ∧ GP (p ++ e) ∧ (p ++ e).length ≤ max p.length (20 + d)
theorem loop_stop {b : List Int} {d n : Nat} {p : List S31} {i h : Int} (hc : ¬ ((n : Int) > 0 ∧ (p.length : Int) < 20)) : Ev (fun k => spec_l05Body.l0 k p (d : Int) (n : Int) b i h) (p ++ [], i, h) := by
  refine ⟨2, fun k hk => ?_⟩
  obtain ⟨k, rfl⟩ : ∃ j, k = j + 2 := ⟨k - 2, by omega⟩
  show spec_l05Body.l0 (k + 2) p (d : Int) (n : Int) b i h = some _
  rw [spec_l05Body.l0, List.append_nil]
  by_cases h0 : (n : Int) > 0
  · have h1 : ¬ (p.length : Int) < 20 := fun q => hc ⟨h0, q⟩
    rw [if_pos h0, decide_eq_false h1, spec_l05Body.j1, if_neg (by decide)]
  · rw [if_neg h0, spec_l05Body.j1, if_neg (by decide)]
/-- One round on: what it has appended, and the rest of the rounds. -/
theorem loop_on {b : List Int} {d n : Nat} (ih : LoopOk b d n) {p q : List S31} {i h i1 h1 : Int} {e : List S31} (hq : q = p ++ e) (hi1 : Rok b i1) (hG : GP q) (hl : q.length ≤ max p.length (20 + d)) (hd : d ≤ 2) (hp : p.length ≤ 25)
    (step : ∃ K, ∀ k, K ≤ k → spec_l05Body.l0 (k + 2) p (d : Int) ((n + 1 : Nat) : Int) b i h = spec_l05Body.l0 k q (d : Int) (n : Int) b i1 h1) :
    ∃ e i' h', Ev (fun k => spec_l05Body.l0 k p (d : Int) ((n + 1 : Nat) : Int) b i h) (p ++ e, i', h') ∧ Rok b i' ∧ GP (p ++ e) ∧ (p ++ e).length ≤ max p.length (20 + d) := by
  obtain ⟨e2, i2, h2, ⟨K, hK⟩, hi2, hG2, hl2⟩ := ih q i1 h1 hi1 hG (by omega)
  obtain ⟨K2, hs⟩ := step
  subst hq
  rw [List.append_assoc] at hG2 hl2 hK
  refine ⟨e ++ e2, i2, h2, ⟨K + K2 + 2, fun k hk => ?_⟩, hi2, hG2, by omega⟩
  obtain ⟨k, rfl⟩ : ∃ j, k = j + 2 := ⟨k - 2, by omega⟩
  show spec_l05Body.l0 (k + 2) p (d : Int) ((n + 1 : Nat) : Int) b i h = some _
  rw [hs k (by omega)]
  exact hK k (by omega)
theorem loop_ok {b : List Int} (hb : b.length ≤ 140737488351232) (d : Nat) (hd : d ≤ 2) (hbody : ∀ d', d' + 1 = d → BodyOk b d') : ∀ n, n ≤ 3 → LoopOk b d n
  | 0, _ => fun p i h hi hG hp => ⟨[], i, h, loop_stop (by omega), hi, by rw [List.append_nil]; exact hG, by rw [List.append_nil]; omega⟩
  | n + 1, hn => fun p i h hi hG hp => by
    have ih := loop_ok hb d hd hbody n (by omega)
    have hw : wrap64 (((n + 1 : Nat) : Int) - 1) = (n : Int) := by rw [wrap_id (by omega) (by omega)]; omega
    by_cases hlt : (p.length : Int) < 20
    case neg => exact ⟨[], i, h, loop_stop (by omega), hi, by rw [List.append_nil]; exact hG, by rw [List.append_nil]; omega⟩
    obtain ⟨x, i1, g1, e1, x0, x1, _, hi1⟩ := below_ok (h := h) hb hi 5
    have hj : ∀ k, spec_l05Body.l0 (k + 2) p (d : Int) ((n + 1 : Nat) : Int) b i h = spec_l05Body.j1 (k + 1) p (d : Int) ((n + 1 : Nat) : Int) true b i h := fun k => by
      rw [spec_l05Body.l0, if_pos (by omega), decide_eq_true hlt]
    by_cases c0 : x = 0
    · by_cases d0 : d = 0
      · refine loop_on ih (q := p) (e := []) (h1 := g1) (by simp) hi1 hG (by omega) hd hp ⟨0, fun k _ => ?_⟩
        rw [hj, spec_l05Body.j1, if_pos rfl, e1, Option.bind_some, if_pos c0, if_pos (by omega), hw]
      · obtain ⟨d', hd'⟩ : ∃ d', d' + 1 = d := ⟨d - 1, by omega⟩
        have hB := hbody d' hd'
        have hwd : wrap64 ((d : Int) - 1) = (d' : Int) := by rw [wrap_id (by omega) (by omega)]; omega
        obtain ⟨r, i2, g2, e2, r0, r1, _, hi2⟩ := below_ok (h := g1) hb hi1 4
        have r1 := r1 (by decide)
        have hL1 : (p ++ [(⟨10, r, 0, 0⟩ : S31)]).length = p.length + 1 := by simp
        have hG1 : GP (p ++ [(⟨10, r, 0, 0⟩ : S31)]) := GP_app hG (by omega) (fun z hz => by rw [List.mem_singleton.1 hz]; exact ok_zero (by omega) r0 r1 (by decide) (by omega))
        obtain ⟨f1, i3, g3, ⟨KB, hKB⟩, hi3, hG2, hl2⟩ := hB (p ++ [(⟨10, r, 0, 0⟩ : S31)]) i2 g2 hi2 hG1 (by omega)
        have hp2 : (p ++ [(⟨10, r, 0, 0⟩ : S31)]) ++ f1 = p ++ ⟨10, r, 0, 0⟩ :: f1 := by simp
        rw [hp2] at hG2 hl2 hKB
        obtain ⟨y, i4, g4, e4, hi4⟩ := onceQ_ok (h := g3) hb hi3 2
        have hL2 : (p ++ (⟨10, r, 0, 0⟩ : S31) :: f1).length = p.length + 1 + f1.length := by simp; omega
        cases y with
        | true =>
          have hG3 : GP (p ++ (⟨10, r, ((p ++ (⟨10, r, 0, 0⟩ : S31) :: f1).length : Int), 0⟩ : S31) :: f1) := GP_put hG2 (ok_zero hG2.1 r0 r1 (by omega) (by omega))
          have hL3 : (p ++ (⟨10, r, ((p ++ (⟨10, r, 0, 0⟩ : S31) :: f1).length : Int), 0⟩ : S31) :: f1).length = p.length + 1 + f1.length := by simp; omega
          refine loop_on ih (h1 := g4) rfl hi4 hG3 (by omega) hd hp ⟨KB, fun k hk => ?_⟩
          have eB : spec_l05Body.f k b i2 g2 (p ++ [(⟨10, r, 0, 0⟩ : S31)]) (d' : Int) = some (p ++ (⟨10, r, 0, 0⟩ : S31) :: f1, i3, g3) := hKB k hk
          have q1 := rd_mid p f1 (⟨10, r, 0, 0⟩ : S31)
          have q2 := set_mid p f1 (⟨10, r, 0, 0⟩ : S31) (⟨10, r, ((p ++ (⟨10, r, 0, 0⟩ : S31) :: f1).length : Int), 0⟩ : S31)
          rw [hj, spec_l05Body.j1, if_pos rfl, e1, Option.bind_some, if_pos c0, if_neg (by omega), e2, Option.bind_some, if_pos (by omega), hwd, eB, Option.bind_some, e4, Option.bind_some, if_pos rfl, if_pos (by omega), if_pos (by show (p.length : Int) < ((p ++ (⟨10, r, 0, 0⟩ : S31) :: f1).length : Int); omega), hw]
          show spec_l05Body.l0 k ((p ++ (⟨10, r, 0, 0⟩ : S31) :: f1).set ((p.length : Int) : Int).toNat (⟨(rd_T31 (p ++ (⟨10, r, 0, 0⟩ : S31) :: f1) (p.length : Int)).f0, (rd_T31 (p ++ (⟨10, r, 0, 0⟩ : S31) :: f1) (p.length : Int)).f1, ((p ++ (⟨10, r, 0, 0⟩ : S31) :: f1).length : Int), (rd_T31 (p ++ (⟨10, r, 0, 0⟩ : S31) :: f1) (p.length : Int)).f3⟩ : S31)) (d : Int) (n : Int) b i4 g4 = _
          rw [q1, q2]
        | false =>
          have hL3 : ((p ++ (⟨10, r, 0, 0⟩ : S31) :: f1) ++ [(⟨11, 0, 0, 0⟩ : S31)]).length = p.length + 2 + f1.length := by simp; omega
          have hy3 : (p ++ (⟨10, r, 0, 0⟩ : S31) :: f1) ++ [(⟨11, 0, 0, 0⟩ : S31)] = p ++ (⟨10, r, 0, 0⟩ : S31) :: (f1 ++ [(⟨11, 0, 0, 0⟩ : S31)]) := by simp
          have hG3 : GP ((p ++ (⟨10, r, 0, 0⟩ : S31) :: f1) ++ [(⟨11, 0, 0, 0⟩ : S31)]) := GP_app hG2 (by omega) (fun z hz => by rw [List.mem_singleton.1 hz]; exact ok_jump (by omega) (by decide) (by omega))
          generalize hN : (((p ++ (⟨10, r, 0, 0⟩ : S31) :: f1) ++ [(⟨11, 0, 0, 0⟩ : S31)]).length : Int) = N3
          rw [hy3] at hG3
          have hG4 : GP (p ++ (⟨10, r, N3, 0⟩ : S31) :: (f1 ++ [(⟨11, 0, 0, 0⟩ : S31)])) := GP_put hG3 (ok_zero hG3.1 r0 r1 (by omega) (by rw [← hN, hy3]; exact Int.le_refl _))
          have hL4 : (p ++ (⟨10, r, N3, 0⟩ : S31) :: (f1 ++ [(⟨11, 0, 0, 0⟩ : S31)])).length = p.length + 2 + f1.length := by simp; omega
          obtain ⟨f2, i5, g5, ⟨KC, hKC⟩, hi5, hG5, hl5⟩ := hB (p ++ (⟨10, r, N3, 0⟩ : S31) :: (f1 ++ [(⟨11, 0, 0, 0⟩ : S31)])) i4 g4 hi4 hG4 (by omega)
          have hz5 : (p ++ (⟨10, r, N3, 0⟩ : S31) :: (f1 ++ [(⟨11, 0, 0, 0⟩ : S31)])) ++ f2 = (p ++ (⟨10, r, N3, 0⟩ : S31) :: f1) ++ (⟨11, 0, 0, 0⟩ : S31) :: f2 := by simp
          rw [hz5] at hG5 hl5 hKC
          generalize hM : (((p ++ (⟨10, r, N3, 0⟩ : S31) :: f1) ++ (⟨11, 0, 0, 0⟩ : S31) :: f2).length : Int) = M5
          have hL5 : ((p ++ (⟨10, r, N3, 0⟩ : S31) :: f1) ++ (⟨11, 0, 0, 0⟩ : S31) :: f2).length = p.length + 2 + f1.length + f2.length := by simp; omega
          have hG6 : GP ((p ++ (⟨10, r, N3, 0⟩ : S31) :: f1) ++ (⟨11, 0, M5, 0⟩ : S31) :: f2) := GP_put hG5 (ok_jump hG5.1 (by omega) (by rw [← hM]; exact Int.le_refl _))
          have hL6 : ((p ++ (⟨10, r, N3, 0⟩ : S31) :: f1) ++ (⟨11, 0, M5, 0⟩ : S31) :: f2).length = p.length + 2 + f1.length + f2.length := by simp; omega
          have hov : (p ++ (⟨10, r, N3, 0⟩ : S31) :: f1).length = (p ++ (⟨10, r, 0, 0⟩ : S31) :: f1).length := by simp
          refine loop_on ih (h1 := g5) (e := (⟨10, r, N3, 0⟩ : S31) :: f1 ++ (⟨11, 0, M5, 0⟩ : S31) :: f2) (by simp) hi5 hG6 (by omega) hd hp ⟨KB + KC, fun k hk => ?_⟩
          have eB : spec_l05Body.f k b i2 g2 (p ++ [(⟨10, r, 0, 0⟩ : S31)]) (d' : Int) = some (p ++ (⟨10, r, 0, 0⟩ : S31) :: f1, i3, g3) := hKB k (by omega)
          have eC : spec_l05Body.f k b i4 g4 (p ++ (⟨10, r, N3, 0⟩ : S31) :: (f1 ++ [(⟨11, 0, 0, 0⟩ : S31)])) (d' : Int) = some ((p ++ (⟨10, r, N3, 0⟩ : S31) :: f1) ++ (⟨11, 0, 0, 0⟩ : S31) :: f2, i5, g5) := hKC k (by omega)
          have q1 := rd_mid p (f1 ++ [(⟨11, 0, 0, 0⟩ : S31)]) (⟨10, r, 0, 0⟩ : S31)
          have q2 := set_mid p (f1 ++ [(⟨11, 0, 0, 0⟩ : S31)]) (⟨10, r, 0, 0⟩ : S31) (⟨10, r, N3, 0⟩ : S31)
          have q3 := rd_mid (p ++ (⟨10, r, N3, 0⟩ : S31) :: f1) f2 (⟨11, 0, 0, 0⟩ : S31)
          have q4 := set_mid (p ++ (⟨10, r, N3, 0⟩ : S31) :: f1) f2 (⟨11, 0, 0, 0⟩ : S31) (⟨11, 0, M5, 0⟩ : S31)
          rw [hov] at q3 q4
          rw [hj, spec_l05Body.j1, if_pos rfl, e1, Option.bind_some, if_pos c0, if_neg (by omega), e2, Option.bind_some, if_pos (by omega), hwd, eB, Option.bind_some, e4, Option.bind_some, if_neg (show ¬ (false = true) by decide), if_pos (by show (p ++ (⟨10, r, 0, 0⟩ : S31) :: f1).length < 4398046511104; omega), Option.bind_some, if_pos (by omega), if_pos (by show (p.length : Int) < (((p ++ (⟨10, r, 0, 0⟩ : S31) :: f1) ++ [(⟨11, 0, 0, 0⟩ : S31)]).length : Int); omega)]
          show (spec_l05Body.f k b i4 g4 (((p ++ (⟨10, r, 0, 0⟩ : S31) :: f1) ++ [(⟨11, 0, 0, 0⟩ : S31)]).set ((p.length : Int) : Int).toNat (⟨(rd_T31 ((p ++ (⟨10, r, 0, 0⟩ : S31) :: f1) ++ [(⟨11, 0, 0, 0⟩ : S31)]) (p.length : Int)).f0, (rd_T31 ((p ++ (⟨10, r, 0, 0⟩ : S31) :: f1) ++ [(⟨11, 0, 0, 0⟩ : S31)]) (p.length : Int)).f1, (((p ++ (⟨10, r, 0, 0⟩ : S31) :: f1) ++ [(⟨11, 0, 0, 0⟩ : S31)]).length : Int), (rd_T31 ((p ++ (⟨10, r, 0, 0⟩ : S31) :: f1) ++ [(⟨11, 0, 0, 0⟩ : S31)]) (p.length : Int)).f3⟩ : S31)) (d' : Int)).bind _ = _
          rw [hN, hy3, q1, q2, eC, Option.bind_some, if_pos (by show (0 : Int) ≤ ((p ++ (⟨10, r, 0, 0⟩ : S31) :: f1).length : Int); omega), if_pos (by show ((p ++ (⟨10, r, 0, 0⟩ : S31) :: f1).length : Int) < (((p ++ (⟨10, r, N3, 0⟩ : S31) :: f1) ++ (⟨11, 0, 0, 0⟩ : S31) :: f2).length : Int); omega), hw]
          show spec_l05Body.l0 k (((p ++ (⟨10, r, N3, 0⟩ : S31) :: f1) ++ (⟨11, 0, 0, 0⟩ : S31) :: f2).set (((p ++ (⟨10, r, 0, 0⟩ : S31) :: f1).length : Int) : Int).toNat (⟨(rd_T31 ((p ++ (⟨10, r, N3, 0⟩ : S31) :: f1) ++ (⟨11, 0, 0, 0⟩ : S31) :: f2) ((p ++ (⟨10, r, 0, 0⟩ : S31) :: f1).length : Int)).f0, (rd_T31 ((p ++ (⟨10, r, N3, 0⟩ : S31) :: f1) ++ (⟨11, 0, 0, 0⟩ : S31) :: f2) ((p ++ (⟨10, r, 0, 0⟩ : S31) :: f1).length : Int)).f1, (((p ++ (⟨10, r, N3, 0⟩ : S31) :: f1) ++ (⟨11, 0, 0, 0⟩ : S31) :: f2).length : Int), (rd_T31 ((p ++ (⟨10, r, N3, 0⟩ : S31) :: f1) ++ (⟨11, 0, 0, 0⟩ : S31) :: f2) ((p ++ (⟨10, r, 0, 0⟩ : S31) :: f1).length : Int)).f3⟩ : S31)) (d : Int) (n : Int) b i5 g5 = _
          rw [hM, q3, q4]
    · by_cases c1 : x = 1
      · by_cases d0 : d = 0
        · refine loop_on ih (q := p) (e := []) (h1 := g1) (by simp) hi1 hG (by omega) hd hp ⟨0, fun k _ => ?_⟩
          rw [hj, spec_l05Body.j1, if_pos rfl, e1, Option.bind_some, if_neg c0, if_pos c1, if_pos (by omega), hw]
        · by_cases h14 : (p.length : Int) > 14
          · refine loop_on ih (q := p) (e := []) (h1 := g1) (by simp) hi1 hG (by omega) hd hp ⟨0, fun k _ => ?_⟩
            rw [hj, spec_l05Body.j1, if_pos rfl, e1, Option.bind_some, if_neg c0, if_pos c1, if_neg (by omega), if_pos h14, hw]
          · have key : ∀ y0 y1 y2 y3 : List S31, y0 = p ++ [(⟨8, 3, 0, 0⟩ : S31)] → y1 = y0 ++ [(⟨10, 3, 0, 0⟩ : S31)] → y2 = y1 ++ [(⟨3, 0, 0, 1⟩ : S31), (⟨1, 2, 1, 0⟩ : S31), (⟨4, 3, 3, 2⟩ : S31)] → y3 = y2 ++ [(⟨11, 0, (y0.length : Int), 0⟩ : S31)] →
                y0.length = p.length + 1 ∧ y1.length = p.length + 2 ∧ y2.length = p.length + 5 ∧ y3.length = p.length + 6 ∧ rd_T31 y3 (y0.length : Int) = (⟨10, 3, 0, 0⟩ : S31) ∧ GP (y3.set ((y0.length : Int) : Int).toNat (⟨10, 3, (y3.length : Int), 0⟩ : S31)) ∧ (∃ e, y3.set ((y0.length : Int) : Int).toNat (⟨10, 3, (y3.length : Int), 0⟩ : S31) = p ++ e) ∧ (y3.set ((y0.length : Int) : Int).toNat (⟨10, 3, (y3.length : Int), 0⟩ : S31)).length = p.length + 6 := by
              intro y0 y1 y2 y3 h0 h1 h2 h3
              have l0 : y0.length = p.length + 1 := by rw [h0]; simp
              have l1 : y1.length = p.length + 2 := by rw [h1]; simp [l0]
              have l2 : y2.length = p.length + 5 := by rw [h2]; simp [l1]
              have l3 : y3.length = p.length + 6 := by rw [h3]; simp [l2]
              have hy : y3 = y0 ++ (⟨10, 3, 0, 0⟩ : S31) :: [(⟨3, 0, 0, 1⟩ : S31), (⟨1, 2, 1, 0⟩ : S31), (⟨4, 3, 3, 2⟩ : S31), (⟨11, 0, (y0.length : Int), 0⟩ : S31)] := by rw [h3, h2, h1]; simp
              have hG3 : GP y3 := by
                have hy2 : y3 = p ++ [(⟨8, 3, 0, 0⟩ : S31), (⟨10, 3, 0, 0⟩ : S31), (⟨3, 0, 0, 1⟩ : S31), (⟨1, 2, 1, 0⟩ : S31), (⟨4, 3, 3, 2⟩ : S31), (⟨11, 0, (y0.length : Int), 0⟩ : S31)] := by rw [hy, h0]; simp
                rw [hy2]
                rw [hy2] at l3
                refine GP_app hG (by omega) (fun z hz => ?_)
                simp only [List.mem_cons, List.not_mem_nil, or_false] at hz
                rcases hz with rfl | rfl | rfl | rfl | rfl | rfl
                · exact ok_self (by omega) (by decide) (by decide)
                · exact ok_zero (by omega) (by decide) (by decide) (by decide) (by omega)
                · exact ok_three (by omega) (by decide) (by decide) (by decide) (by decide) (by decide) (by decide) (by decide) (by decide) (by decide)
                · exact ok_set (by omega) (by decide) (by decide) (by decide) (by decide)
                · exact ok_three (by omega) (by decide) (by decide) (by decide) (by decide) (by decide) (by decide) (by decide) (by decide) (by decide)
                · exact ok_jump (by omega) (by omega) (by omega)
              refine ⟨l0, l1, l2, l3, by rw [hy]; exact rd_mid _ _ _, ?_, ?_, by rw [List.length_set, l3]⟩
              · rw [hy] at hG3 ⊢
                rw [set_mid]
                exact GP_put hG3 (ok_zero hG3.1 (by decide) (by decide) (by omega) (Int.le_refl _))
              · rw [hy, set_mid, h0]
                exact ⟨_, List.append_assoc _ _ _⟩
            obtain ⟨m0, m1, m2, m3, mr, mG, ⟨me, mq⟩, ml⟩ := key _ _ _ _ rfl rfl rfl rfl
            refine loop_on ih (h1 := g1) mq hi1 mG (by omega) hd hp ⟨0, fun k _ => ?_⟩
            rw [hj, spec_l05Body.j1, if_pos rfl, e1, Option.bind_some, if_neg c0, if_pos c1, if_neg (by omega), if_neg h14, if_pos (by omega), Option.bind_some, if_pos (by omega), Option.bind_some, Option.bind_some, if_pos (by show _ + 3 < _; omega), Option.bind_some, if_pos (by omega), Option.bind_some, if_pos (by omega), if_pos (by omega), mr, hw]
      · obtain ⟨o, u, v, z, i2, g2, e2, hi2, hok⟩ := plain_ok (h := g1) hb hi1
        have hL : (p ++ [(⟨o, u, v, z⟩ : S31)]).length = p.length + 1 := by simp
        have hG1 : GP (p ++ [(⟨o, u, v, z⟩ : S31)]) := GP_app hG (by omega) (fun w hw => by rw [List.mem_singleton.1 hw]; exact hok _ (by omega))
        refine loop_on ih (q := p ++ [(⟨o, u, v, z⟩ : S31)]) (e := [(⟨o, u, v, z⟩ : S31)]) (h1 := g2) rfl hi2 hG1 (by omega) hd hp ⟨0, fun k _ => ?_⟩
        rw [hj, spec_l05Body.j1, if_pos rfl, e1, Option.bind_some, if_neg c0, if_neg c1, e2, Option.bind_some, if_pos (by omega), hw]
theorem body_ok {b : List Int} (hb : b.length ≤ 140737488351232) : ∀ d, d ≤ 2 → BodyOk b d := by
  intro d
  induction d with
  | zero =>
    intro hd p i h hi hG hp
    obtain ⟨x, i1, g1, e1, x0, x1, _, hi1⟩ := below_ok (h := h) hb hi 4
    have x1 := x1 (by decide)
    obtain ⟨e, i2, h2, ⟨K, hK⟩, r1, r2, r3⟩ := loop_ok hb 0 hd (fun d' h => by omega) x.toNat (by omega) p i1 g1 hi1 hG hp
    refine ⟨e, i2, h2, ⟨K + 1, fun k hk => ?_⟩, r1, r2, r3⟩
    obtain ⟨k, rfl⟩ : ∃ j, k = j + 1 := ⟨k - 1, by omega⟩
    have hx : ((x.toNat : Nat) : Int) = x := by omega
    have e2 := hK k (by omega)
    rw [hx] at e2
    show spec_l05Body.f (k + 1) b i h p _ = some _
    rw [spec_l05Body.f, e1, Option.bind_some]
    exact e2
  | succ d ihd =>
    intro hd p i h hi hG hp
    obtain ⟨x, i1, g1, e1, x0, x1, _, hi1⟩ := below_ok (h := h) hb hi 4
    have x1 := x1 (by decide)
    have hbd : ∀ d', d' + 1 = d + 1 → BodyOk b d' := by
      intro d' h'
      obtain rfl : d' = d := by omega
      exact ihd (by omega)
    obtain ⟨e, i2, h2, ⟨K, hK⟩, r1, r2, r3⟩ := loop_ok hb (d + 1) hd hbd x.toNat (by omega) p i1 g1 hi1 hG hp
    refine ⟨e, i2, h2, ⟨K + 1, fun k hk => ?_⟩, r1, r2, r3⟩
    obtain ⟨k, rfl⟩ : ∃ j, k = j + 1 := ⟨k - 1, by omega⟩
    have hx : ((x.toNat : Nat) : Int) = x := by omega
    have e2 := hK k (by omega)
    rw [hx] at e2
    show spec_l05Body.f (k + 1) b i h p _ = some _
    rw [spec_l05Body.f, e1, Option.bind_some]
    exact e2
theorem quiet_ok {b : List Int} (hb : b.length ≤ 140737488351232) : ∃ p : List S31, progB p = true ∧ Ev (fun k => spec_DrawQuiet.f k b) p := by
  have fromG : ∀ p : List S31, GP p → progB p = true := fun p hG => by
    unfold progB
    rw [Bool.and_eq_true]
    exact ⟨decide_eq_true hG.1, List.all_eq_true.2 hG.2⟩
  obtain ⟨i, h, ⟨K0, h0⟩, hi⟩ := new_ok b
  obtain ⟨x, i1, g1, e1, hi1⟩ := onceQ_ok (h := h) hb hi 4
  have fin : ∀ (p0 : List S31) (i g : Int), Rok b i → GP p0 → p0.length ≤ 1 → ∃ p i' h', GP p ∧ Ev (fun k => spec_l05Quiet.j0 k p0 b i g) (p, i', h') := by
    intro p0 i g hi hG hl
    obtain ⟨e, i2, g2, ⟨K, hK⟩, hi2, hG2, hl2⟩ := body_ok hb 2 (by decide) p0 i g hi hG (by omega)
    obtain ⟨y, i3, g3, e3, hi3⟩ := onceQ_ok (h := g2) hb hi2 6
    have hcase : ∃ p i' h', GP p ∧ (if y = true then (if ((p0 ++ e).length : Int) > 1 then ((spec_l01Below.f b i3 g3 ((p0 ++ e).length : Int)).bind fun bt435 => (if 0 ≤ bt435.1 then (if bt435.1 < ((p0 ++ e).length : Int) then (some (((p0 ++ e).set (bt435.1 : Int).toNat (⟨12, 0, 0, 0⟩ : S31)), bt435.2.1, bt435.2.2)) else (none)) else (none))) else (some (p0 ++ e, i3, g3))) else (some (p0 ++ e, i3, g3))) = some (p, i', h') := by
      by_cases hy : y = true
      · rw [if_pos hy]
        by_cases hl1 : ((p0 ++ e).length : Int) > 1
        · rw [if_pos hl1]
          obtain ⟨z, i4, g4, e4, z0, z1, _, hi4⟩ := below_ok (h := g3) hb hi3 ((p0 ++ e).length : Int)
          have z1 := z1 (by omega)
          rw [e4, Option.bind_some, if_pos z0, if_pos z1]
          refine ⟨_, _, _, ⟨by rw [List.length_set]; exact hG2.1, fun w hw => ?_⟩, rfl⟩
          rw [List.length_set]
          rcases List.mem_or_eq_of_mem_set hw with h | rfl
          · exact hG2.2 w h
          · have hm := hG2.1
            unfold okIns insOkB
            simp [inB_of (n := ((p0 ++ e).length : Int)) (lo := 0) (hi := 32) (by omega) (by omega)]
            unfold inB
            simp at hm ⊢
            omega
        · rw [if_neg hl1]
          exact ⟨_, _, _, hG2, rfl⟩
      · rw [if_neg hy]
        exact ⟨_, _, _, hG2, rfl⟩
    obtain ⟨p, i', h', hGp, he⟩ := hcase
    refine ⟨p, i', h', hGp, K + 1, fun k hk => ?_⟩
    obtain ⟨k, rfl⟩ : ∃ j, k = j + 1 := ⟨k - 1, by omega⟩
    have eB : spec_l05Body.f k b i g p0 2 = some (p0 ++ e, i2, g2) := hK k (by omega)
    show spec_l05Quiet.j0 (k + 1) p0 b i g = some _
    rw [spec_l05Quiet.j0, eB, Option.bind_some, e3, Option.bind_some]
    exact he
  have hnil : GP ([] : List S31) := ⟨by decide, fun x hx => by cases hx⟩
  cases x with
  | true =>
    obtain ⟨p, i', h', hGp, K, hK⟩ := fin [] i1 g1 hi1 hnil (by decide)
    refine ⟨p, fromG p hGp, K0 + K, fun k hk => ?_⟩
    have f0 : spec_l01New.f k b = some (b, i, h) := h0 k (by omega)
    have fj : spec_l05Quiet.j0 k [] b i1 g1 = some (p, i', h') := hK k (by omega)
    show spec_DrawQuiet.f k b = some p
    unfold spec_DrawQuiet.f spec_l05Quiet.f
    rw [f0, Option.bind_some, Option.bind_some, e1, Option.bind_some, if_pos rfl, fj]
    rfl
  | false =>
    obtain ⟨r, i2, g2, e2, r0, r1, _, hi2⟩ := below_ok (h := g1) hb hi1 2
    have r1 := r1 (by decide)
    have hG1 : GP ([] ++ [(⟨8, r, 0, 0⟩ : S31)]) := GP_app hnil (by simp) (fun z hz => by rw [List.mem_singleton.1 hz]; exact ok_self (by simp) r0 (by omega))
    obtain ⟨p, i', h', hGp, K, hK⟩ := fin ([] ++ [(⟨8, r, 0, 0⟩ : S31)]) i2 g2 hi2 hG1 (by simp)
    refine ⟨p, fromG p hGp, K0 + K, fun k hk => ?_⟩
    have f0 : spec_l01New.f k b = some (b, i, h) := h0 k (by omega)
    have fj : spec_l05Quiet.j0 k ([] ++ [(⟨8, r, 0, 0⟩ : S31)]) b i2 g2 = some (p, i', h') := hK k (by omega)
    show spec_DrawQuiet.f k b = some p
    unfold spec_DrawQuiet.f spec_l05Quiet.f
    rw [f0, Option.bind_some, Option.bind_some, e1, Option.bind_some, if_neg (show ¬ (false = true) by decide), e2, Option.bind_some, if_pos (by decide), fj]
    rfl
end Go.Proofs.YtionemdnfhcfpaaDoor.HL
