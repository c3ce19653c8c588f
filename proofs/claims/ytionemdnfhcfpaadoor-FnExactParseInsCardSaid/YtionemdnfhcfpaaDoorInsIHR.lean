/- The text of an instruction, as the program writes it. No condition but fields that an int holds. -/
import Derived.Test.YtionemdnfhcfpaaDoorFmtHR
import Derived.Test.YtionemdnfhcfpaaDoorSplitTHR
import Derived.Test.YtionemdnfhcfpaaDoorInsOkSHR
import Derived.Test.YtionemdnfhcfpaaDoorHR9
import Derived.Test.YtionemdnfhcfpaaDoorHR5
set_option linter.unusedVariables false
set_option linter.unusedSimpArgs false
namespace Go.Proofs.YtionemdnfhcfpaaDoor.HR
open Go Go.RowKit Go.Proofs.YtionemdnfhcfpaaDoorW.PrintWords Go.Proofs.YtionemdnfhcfpaaDoorW.PrintLast Go.Proofs.YtionemdnfhcfpaaDoor.Aid

def namesT : List ByteArray := [⟨#[110, 111, 112]⟩, ⟨#[115, 101, 116]⟩, ⟨#[109, 111, 118, 101]⟩, ⟨#[97, 100, 100]⟩, ⟨#[115, 117, 98]⟩, ⟨#[109, 117, 108]⟩, ⟨#[120, 111, 114]⟩, ⟨#[108, 101, 115, 115]⟩, ⟨#[115, 101, 108, 102]⟩, ⟨#[112, 105, 99, 107]⟩, ⟨#[122, 101, 114, 111]⟩, ⟨#[106, 117, 109, 112]⟩, ⟨#[104, 97, 108, 116]⟩, ⟨#[108, 111, 97, 100]⟩, ⟨#[115, 116, 111, 114, 101]⟩, ⟨#[98, 117, 109, 112]⟩, ⟨#[98, 97, 114, 114, 105, 101, 114]⟩]
def nameT (op : Int) : ByteArray := rdOf ByteArray.empty namesT op
theorem inB16 {op : Int} (h0 : 0 ≤ op) (h1 : op ≤ 16) : inB op 0 16 = true := by unfold inB; simp [h0, h1]
theorem op_cases {op : Int} (h0 : 0 ≤ op) (h1 : op ≤ 16) : op = 0 ∨ op = 1 ∨ op = 2 ∨ op = 3 ∨ op = 4 ∨ op = 5 ∨ op = 6 ∨ op = 7 ∨ op = 8 ∨ op = 9 ∨ op = 10 ∨ op = 11 ∨ op = 12 ∨ op = 13 ∨ op = 14 ∨ op = 15 ∨ op = 16 := by omega
theorem opName_val {op : Int} (h0 : 0 ≤ op) (h1 : op ≤ 16) : impl_OpName.f op = some (nameT op) := by
  rcases op_cases h0 h1 with rfl | rfl | rfl | rfl | rfl | rfl | rfl | rfl | rfl | rfl | rfl | rfl | rfl | rfl | rfl | rfl | rfl <;> rfl
theorem specOpName_val {op : Int} (h0 : 0 ≤ op) (h1 : op ≤ 16) : spec_OpName.f op = some (nameT op) := by
  rcases op_cases h0 h1 with rfl | rfl | rfl | rfl | rfl | rfl | rfl | rfl | rfl | rfl | rfl | rfl | rfl | rfl | rfl | rfl | rfl <;> rfl
/-- Which fields an operation has, as bits. -/
def l06 (op : Int) : Int := if op = 0 ∨ op = 12 ∨ op = 16 then 0 else if op = 8 then 1 else if op = 11 then 2 else if op = 1 ∨ op = 2 ∨ op = 10 ∨ op = 13 ∨ op = 14 ∨ op = 15 then 3 else 7
theorem l06_val {op : Int} (h0 : 0 ≤ op) (h1 : op ≤ 16) (k : Nat) : spec_l06Fields.f (k + 1) op = some (l06 op) := by
  rcases op_cases h0 h1 with rfl | rfl | rfl | rfl | rfl | rfl | rfl | rfl | rfl | rfl | rfl | rfl | rfl | rfl | rfl | rfl | rfl <;> rfl
def flB (op : Int) (n : Nat) : Bool := l06 op = 7 || (l06 op = 3 && decide (n < 2)) || (l06 op = 1 && n == 0) || (l06 op = 2 && n == 1)
theorem flB_spec {op : Int} (h0 : 0 ≤ op) (h1 : op ≤ 16) {n : Nat} (hn : n < 3) : (Go.bits .and .i64 (shr .i64 (l06 op) (n : Int)) 1 = 1) ↔ flB op n = true := by
  have hc : n = 0 ∨ n = 1 ∨ n = 2 := by omega
  have h6 : l06 op = 0 ∨ l06 op = 1 ∨ l06 op = 2 ∨ l06 op = 3 ∨ l06 op = 7 := by
    unfold l06
    repeat' split
    all_goals simp
  unfold flB
  rcases h6 with h | h | h | h | h <;> rw [h] <;> rcases hc with rfl | rfl | rfl <;> decide +kernel
theorem formOf_val {op : Int} (h0 : 0 ≤ op) (h1 : op ≤ 16) : ∃ f : ByteArray, impl_formOf.f op = some f ∧ f.size = 3 ∧ ∀ n : Nat, n < 3 → ((bt f (n : Int) = 45) ↔ flB op n = false) := by
  have key : ∀ (f : ByteArray), impl_formOf.f op = some f → f.size = 3 → ((bt f ((0 : Nat) : Int) = 45) ↔ flB op 0 = false) → ((bt f ((1 : Nat) : Int) = 45) ↔ flB op 1 = false) → ((bt f ((2 : Nat) : Int) = 45) ↔ flB op 2 = false) →
      ∃ f : ByteArray, impl_formOf.f op = some f ∧ f.size = 3 ∧ ∀ n : Nat, n < 3 → ((bt f (n : Int) = 45) ↔ flB op n = false) := fun f hf hs a0 a1 a2 => ⟨f, hf, hs, fun n hn => by
    have hc : n = 0 ∨ n = 1 ∨ n = 2 := by omega
    rcases hc with rfl | rfl | rfl
    · exact a0
    · exact a1
    · exact a2⟩
  rcases op_cases h0 h1 with rfl | rfl | rfl | rfl | rfl | rfl | rfl | rfl | rfl | rfl | rfl | rfl | rfl | rfl | rfl | rfl | rfl <;>
    exact key _ rfl rfl (by decide +kernel) (by decide +kernel) (by decide +kernel)
/-- The text behind the name, field by field. -/
def partT (op : Int) (l : List Int) : Nat → List UInt8
  | 0 => (nameT op).data.toList
  | n + 1 => partT op l n ++ (if flB op n = true then 32 :: Lib.itoa (rd l (n : Int)) else [])
theorem name_len {op : Int} (h0 : 0 ≤ op) (h1 : op ≤ 16) : (nameT op).data.toList.length ≤ 7 := by
  rcases op_cases h0 h1 with rfl | rfl | rfl | rfl | rfl | rfl | rfl | rfl | rfl | rfl | rfl | rfl | rfl | rfl | rfl | rfl | rfl <;> decide +kernel
theorem itoa_len21 {n : Int} (h0 : -9223372036854775808 ≤ n) (h1 : n ≤ 9223372036854775807) : (Lib.itoa n).length ≤ 20 := by
  unfold Lib.itoa
  split
  · have := digits_len n.natAbs 19 (by omega) (by omega)
    simp; omega
  · have := digits_len n.toNat 19 (by omega) (by omega)
    omega
theorem part_len {op : Int} (h0 : 0 ≤ op) (h1 : op ≤ 16) {l : List Int} (hl : ∀ n : Nat, n < 3 → -9223372036854775808 ≤ rd l (n : Int) ∧ rd l (n : Int) ≤ 9223372036854775807) : ∀ n, n ≤ 3 → (partT op l n).length ≤ 7 + 21 * n
  | 0, _ => by have := name_len h0 h1; show (nameT op).data.toList.length ≤ _; omega
  | n + 1, hn => by
    have ih := part_len h0 h1 hl n (by omega)
    have hr := hl n (by omega)
    have := itoa_len21 hr.1 hr.2
    show (partT op l n ++ _).length ≤ _
    rw [List.length_append]
    split <;> simp <;> omega
theorem part_step (op : Int) (l : List Int) (n : Nat) (h : flB op n = true) : mkB (partT op l n) ++ ((⟨#[32]⟩ : ByteArray) ++ ⟨(Lib.itoa (rd l (n : Int))).toArray⟩) = mkB (partT op l (n + 1)) := by
  have e1 : (⟨#[32]⟩ : ByteArray) ++ ⟨(Lib.itoa (rd l (n : Int))).toArray⟩ = ⟨(32 :: Lib.itoa (rd l (n : Int))).toArray⟩ := mk_append [32] _
  rw [e1]
  show mkB (partT op l n) ++ mkB _ = mkB (partT op l n ++ _)
  rw [if_pos h]
  exact mk_append _ _
theorem part_skip (op : Int) (l : List Int) (n : Nat) (h : flB op n = false) : partT op l (n + 1) = partT op l n := by
  show partT op l n ++ _ = _
  rw [h, if_neg (by decide), List.append_nil]
theorem insOk_op {op a b c s : Int} (h : insOkB op a b c s = true) : 0 ≤ op ∧ op ≤ 16 := by
  refine Classical.byContradiction fun hn => ?_
  have h0 : ¬ (op = 0 ∨ op = 12 ∨ op = 16) := by omega
  have h1 : ¬ op = 1 := by omega
  have h2 : ¬ (op = 2 ∨ op = 13 ∨ op = 14 ∨ op = 15) := by omega
  have h3 : ¬ op = 8 := by omega
  have h4 : ¬ op = 10 := by omega
  have h5 : ¬ op = 11 := by omega
  have h6 : ¬ (3 ≤ op ∧ op ≤ 9) := by omega
  unfold insOkB at h
  rw [if_neg h0, if_neg h1, if_neg h2, if_neg h3, if_neg h4, if_neg h5, if_neg h6] at h
  simp at h
/-- The text of an instruction: none if it is not valid. -/
def textT (op a b c : Int) : List UInt8 := if insOkB op a b c 32 = true then partT op [a, b, c] 3 else []
theorem three {P : Int → Prop} {a b c : Int} (ha : P a) (hb : P b) (hc : P c) : ∀ n : Nat, n < 3 → P (rd [a, b, c] (n : Int)) := by
  intro n hn
  have h : n = 0 ∨ n = 1 ∨ n = 2 := by omega
  rcases h with rfl | rfl | rfl
  · exact ha
  · exact hb
  · exact hc
theorem formatIns_ev {op a b c : Int} (ha : -9223372036854775808 ≤ a ∧ a ≤ 9223372036854775807) (hb : -9223372036854775808 ≤ b ∧ b ≤ 9223372036854775807) (hc : -9223372036854775808 ≤ c ∧ c ≤ 9223372036854775807) :
    Ev (fun k => impl_FormatIns.f k op a b c) (mkB (textT op a b c)) := by
  cases hok : insOkB op a b c 32 with
  | false =>
    refine Ev.congr (fun k => ?_) (ev_some _)
    unfold impl_FormatIns.f textT
    rw [insOk_val, hok, Option.bind_some, if_neg (by decide), if_neg (by decide)]
    rfl
  | true =>
    obtain ⟨o0, o1⟩ := insOk_op hok
    have hr := three (P := fun x => -9223372036854775808 ≤ x ∧ x ≤ 9223372036854775807) ha hb hc
    obtain ⟨f, hf, hfs, hfl⟩ := formOf_val o0 o1
    have h := loop_to (fun k n (s : ByteArray) => impl_FormatIns.l0 k s [a, b, c] 3 (n : Int) op a b c) 3 (fun n s => s = mkB (partT op [a, b, c] n)) (mkB (partT op [a, b, c] 3))
      (fun n s hn hI => Or.inl ⟨mkB (partT op [a, b, c] (n + 1)), rfl, 0, fun k _ => by
        have hs : s = mkB (partT op [a, b, c] n) := hI
        subst hs
        have hlen := part_len o0 o1 hr n (by omega)
        have hrn := hr n hn
        have hil := itoa_len21 hrn.1 hrn.2
        have hsz1 : (⟨(Lib.itoa (rd [a, b, c] (n : Int))).toArray⟩ : ByteArray).size ≤ 20 := by rw [mk_size]; exact hil
        have hsz2 : (mkB (partT op [a, b, c] n)).size ≤ 100 := by rw [mkB_size]; omega
        simp only [impl_FormatIns.l0]
        rw [if_pos (by omega), if_pos (by omega), if_pos (by simp only [List.length_cons, List.length_nil]; omega), hf, Option.bind_some, if_pos (by omega), wrap_succ hn (by omega)]
        cases hfb : flB op n with
        | true =>
          rw [if_neg (by rw [hfl n hn, hfb]; decide), fmtInt_val hrn.1 hrn.2, Option.bind_some, if_pos (by omega), if_pos (by rw [ByteArray.size_append]; show _ + (1 + _) ≤ _; omega), part_step op _ n hfb]
        | false =>
          rw [if_pos ((hfl n hn).2 hfb), part_skip op _ n hfb]⟩)
      (fun s hI => ⟨0, fun k _ => by
        have hs : s = mkB (partT op [a, b, c] 3) := hI
        subst hs
        simp only [impl_FormatIns.l0]
        rw [if_neg (by omega)]⟩) 0 (mkB (partT op [a, b, c] 0)) (Nat.zero_le _) rfl
    refine Ev.congr (fun k => ?_) (show Ev _ (mkB (textT op a b c)) from by unfold textT; rw [if_pos hok]; exact h)
    unfold impl_FormatIns.f
    rw [insOk_val, hok, Option.bind_some, if_pos rfl, opName_val o0 o1, Option.bind_some, Option.bind_some, show nameT op = mkB (partT op [a, b, c] 0) from (mkB_data _).symm]
    rfl
end Go.Proofs.YtionemdnfhcfpaaDoor.HR
