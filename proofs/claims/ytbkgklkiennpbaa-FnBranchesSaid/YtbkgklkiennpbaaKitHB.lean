import Derived.Test.YtbkgklkiennpbaaBase
import Derived.Test.YtbkgklkiennpbaaHB4
import Derived.Test.YtbkgklkiennpbaaHB5
import Derived.Test.YtbkgklkiennpbaaHB2
import Derived.Test.YtbkgklkiennpbaaHB1
import Derived.Test.YtbkgklkiennpbaaHB6
/- Whether an instruction is valid, as the program's table tells it. No condition. -/
set_option linter.unusedVariables false
set_option linter.unusedSimpArgs false
namespace Go.Proofs.Ytbkgklkiennpbaa.HB
open Go Go.RowKit Go.Proofs.YtbkgklkiennpbaaW.PrintWords Go.Proofs.YtbkgklkiennpbaaW.PrintLast Go.Proofs.Ytbkgklkiennpbaa.Aid

def inB (n lo hi : Int) : Bool := decide (lo ≤ n) && decide (n ≤ hi)
def insOkB (op a b c s : Int) : Bool :=
  inB s 0 32 && (if op = 0 ∨ op = 12 ∨ op = 16 then a == 0 && b == 0 && c == 0
    else if op = 1 then inB a 0 3 && inB b 0 65535 && c == 0
    else if op = 2 ∨ op = 13 ∨ op = 14 ∨ op = 15 then inB a 0 3 && inB b 0 3 && c == 0
    else if op = 8 then inB a 0 3 && b == 0 && c == 0
    else if op = 10 then inB a 0 3 && inB b 0 s && c == 0
    else if op = 11 then a == 0 && inB b 0 s && c == 0
    else if 3 ≤ op ∧ op ≤ 9 then inB a 0 3 && inB b 0 3 && inB c 0 3
    else false)
theorem within_val (a b c : Int) : impl_within.f a b c = some (inB a b c) := by
  unfold impl_within.f inB
  by_cases h : b ≤ a
  · rw [if_pos (show a ≥ b from h)]; simp [h]
  · rw [if_neg (show ¬ a ≥ b from h)]; simp [h]
theorem isReg_val (a : Int) : impl_isReg.f a = some (inB a 0 3) := by unfold impl_isReg.f; rw [within_val]; rfl
theorem isWord_val (a : Int) : impl_IsWord.f a = some (inB a 0 65535) := by unfold impl_IsWord.f; rw [within_val]; rfl
def fieldB (form n s : Int) : Bool := if form = 82 then inB n 0 3 else if form = 87 then inB n 0 65535 else if form = 84 then inB n 0 s else n == 0
theorem isField_val (form n s : Int) : impl_isField.f form n s = some (fieldB form n s) := by
  unfold impl_isField.f fieldB
  rw [isReg_val, isWord_val, within_val]
  by_cases h : form = 82
  · simp [h]
  · by_cases h1 : form = 87
    · simp [h1]
    · by_cases h2 : form = 84 <;> simp [h, h1, h2]
theorem form_val (op : Int) (x y z : UInt8) (f : ByteArray) (hf : impl_formOf.f op = some f) (he : f = ⟨#[x, y, z]⟩) (a b c s : Int) :
    impl_InsOk.f op a b c s = some (inB s 0 32 && (fieldB (x.toNat : Int) a s && (fieldB (y.toNat : Int) b s && fieldB (z.toNat : Int) c s))) := by
  subst he
  unfold impl_InsOk.f
  rw [hf, Option.bind_some, if_neg (by rw [toList_data]; simp), within_val, Option.bind_some]
  cases inB s 0 32
  · rfl
  · rw [if_pos rfl, if_pos (show (0 : Int) < (((⟨#[x, y, z]⟩ : ByteArray).size : Nat) : Int) from by show (0 : Int) < ((3 : Nat) : Int); decide), show bt ⟨#[x, y, z]⟩ 0 = (x.toNat : Int) from rfl, isField_val, Option.bind_some]
    cases fieldB (x.toNat : Int) a s
    · rfl
    · rw [if_pos rfl, if_pos (show (1 : Int) < (((⟨#[x, y, z]⟩ : ByteArray).size : Nat) : Int) from by show (1 : Int) < ((3 : Nat) : Int); decide), show bt ⟨#[x, y, z]⟩ 1 = (y.toNat : Int) from rfl, isField_val, Option.bind_some]
      cases fieldB (y.toNat : Int) b s
      · rfl
      · rw [if_pos rfl, if_pos (show (2 : Int) < (((⟨#[x, y, z]⟩ : ByteArray).size : Nat) : Int) from by show (2 : Int) < ((3 : Nat) : Int); decide), show bt ⟨#[x, y, z]⟩ 2 = (z.toNat : Int) from rfl, isField_val, Option.bind_some]
        rfl
theorem insOk_val (op a b c s : Int) : impl_InsOk.f op a b c s = some (insOkB op a b c s) := by
  by_cases h : 0 ≤ op ∧ op ≤ 16
  · have hc : op = 0 ∨ op = 1 ∨ op = 2 ∨ op = 3 ∨ op = 4 ∨ op = 5 ∨ op = 6 ∨ op = 7 ∨ op = 8 ∨ op = 9 ∨ op = 10 ∨ op = 11 ∨ op = 12 ∨ op = 13 ∨ op = 14 ∨ op = 15 ∨ op = 16 := by omega
    rcases hc with rfl | rfl | rfl | rfl | rfl | rfl | rfl | rfl | rfl | rfl | rfl | rfl | rfl | rfl | rfl | rfl | rfl <;>
      (rw [form_val _ _ _ _ _ rfl rfl]; simp [insOkB, fieldB, Bool.and_assoc])
  · have hf : impl_formOf.f op = some ⟨#[]⟩ := by
      unfold impl_formOf.f
      rw [within_val, show inB op 0 16 = false by unfold inB; simp; omega]
      rfl
    have h0 : ¬ (op = 0 ∨ op = 12 ∨ op = 16) := by omega
    have h1 : ¬ op = 1 := by omega
    have h2 : ¬ (op = 2 ∨ op = 13 ∨ op = 14 ∨ op = 15) := by omega
    have h3 : ¬ op = 8 := by omega
    have h4 : ¬ op = 10 := by omega
    have h5 : ¬ op = 11 := by omega
    have h6 : ¬ (3 ≤ op ∧ op ≤ 9) := by omega
    unfold impl_InsOk.f insOkB
    rw [hf, Option.bind_some, if_pos (by rw [toList_data]), if_neg h0, if_neg h1, if_neg h2, if_neg h3, if_neg h4, if_neg h5, if_neg h6]
    simp
end Go.Proofs.Ytbkgklkiennpbaa.HB
/- Whether a program is valid, as the program tells it. No condition. -/
set_option linter.unusedVariables false
set_option linter.unusedSimpArgs false
namespace Go.Proofs.Ytbkgklkiennpbaa.HB
open Go Go.RowKit Go.Proofs.YtbkgklkiennpbaaW.PrintWords Go.Proofs.YtbkgklkiennpbaaW.PrintLast Go.Proofs.Ytbkgklkiennpbaa.Aid

def okIns (m : Nat) (x : S52) : Bool := insOkB x.f0 x.f1 x.f2 x.f3 (m : Int)
def progB (l : List S52) : Bool := decide (l.length ≤ 32) && l.all (okIns l.length)
theorem rdP_at {l : List S52} {n : Nat} (h : n < l.length) : l[n]? = some (rd_T52 l (n : Int)) := by
  simp [rd_T52, List.getD_eq_getElem?_getD, h]
theorem progOk_val (l : List S52) : impl_ProgramOk.f l = some (progB l) := by
  unfold impl_ProgramOk.f progB
  by_cases h : l.length ≤ 32
  · have hall : l.all (fun x => (impl_InsOk.f x.f0 x.f1 x.f2 x.f3 (l.length : Int)).isSome) = true := by
      rw [List.all_eq_true]; intro x _; rw [insOk_val]; rfl
    rw [if_pos h, if_pos hall]
    simp only [h, decide_true, Bool.true_and]
    congr 1
    rw [List.any_eq_not_all_not, Bool.not_not]
    congr 1
    funext x
    unfold impl_ProgramOk.bad okIns
    rw [insOk_val]
    cases insOkB x.f0 x.f1 x.f2 x.f3 (l.length : Int) <;> rfl
  · rw [if_neg h]
    simp [h]
end Go.Proofs.Ytbkgklkiennpbaa.HB
/- The successors of a node of a valid program, as the program tells them. -/
set_option linter.unusedVariables false
set_option linter.unusedSimpArgs false
namespace Go.Proofs.Ytbkgklkiennpbaa.HB
open Go Go.RowKit Go.Proofs.YtbkgklkiennpbaaW.PrintWords Go.Proofs.YtbkgklkiennpbaaW.PrintLast Go.Proofs.Ytbkgklkiennpbaa.Aid

def nxt (l : List S52) (a : Int) : List Int :=
  if a = (l.length : Int) then [] else if (rd_T52 l a).f0 = 12 then [(l.length : Int)] else if (rd_T52 l a).f0 = 11 then [(rd_T52 l a).f2]
  else if (rd_T52 l a).f0 = 10 then srt [(rd_T52 l a).f2, a + 1] else [a + 1]
theorem srt_pair (x y : Int) : srt [x, y] = if x = y then [x] else if x < y then [x, y] else [y, x] := by
  by_cases h : x = y
  · subst h
    rw [if_pos rfl]
    exact srt_eq (by simp [Asc]) (by simp)
  · rw [if_neg h]
    by_cases h2 : x < y
    · rw [if_pos h2]
      exact srt_eq (by simp [Asc, h2]) (by simp)
    · rw [if_neg h2]
      have h3 : y < x := by omega
      refine srt_eq (by simp [Asc, h3]) (fun z => ?_)
      simp only [List.mem_cons, List.not_mem_nil, or_false]
      exact Or.comm
theorem next_val (l : List S52) (hl : l.length ≤ 1048576) {a : Int} (h0 : 0 ≤ a) (h1 : a ≤ (l.length : Int)) : impl_next.f l a = some (nxt l a) := by
  unfold impl_next.f nxt
  by_cases e : a = (l.length : Int)
  · rw [if_pos e, if_pos e]
  · rw [if_neg e, if_neg e, if_pos h0, if_pos (by omega), wrap_id (n := a + 1) (by omega) (by omega)]
    by_cases e12 : (rd_T52 l a).f0 = 12
    · rw [if_pos e12, if_pos e12]
    · rw [if_neg e12, if_neg e12]
      by_cases e11 : (rd_T52 l a).f0 = 11
      · rw [if_pos e11, if_pos e11]
      · rw [if_neg e11, if_neg e11]
        by_cases e10 : (rd_T52 l a).f0 = 10
        · rw [if_pos e10, if_pos e10]
          unfold slices_Sort_int_int.f slices_Compact_int_int.f
          rw [if_pos (by simp)]
          rfl
        · rw [if_neg e10, if_neg e10]
theorem prog_small {l : List S52} (h : progB l = true) : l.length ≤ 32 := by
  unfold progB at h
  rw [Bool.and_eq_true] at h
  simpa using h.1
theorem prog_ins {l : List S52} (h : progB l = true) {a : Int} (h0 : 0 ≤ a) (h1 : a < (l.length : Int)) : insOkB (rd_T52 l a).f0 (rd_T52 l a).f1 (rd_T52 l a).f2 (rd_T52 l a).f3 (l.length : Int) = true := by
  unfold progB at h
  rw [Bool.and_eq_true, List.all_eq_true] at h
  obtain ⟨n, rfl⟩ := Int.eq_ofNat_of_zero_le h0
  exact h.2 _ (List.mem_of_getElem? (rdP_at (by omega)))
theorem ins_target {op a b c s : Int} (h : insOkB op a b c s = true) (ho : op = 10 ∨ op = 11) : 0 ≤ b ∧ b ≤ s := by
  rcases ho with rfl | rfl <;> (simp [insOkB, inB] at h; omega)
theorem nxt_ok {l : List S52} (h : progB l = true) (x : Int) (h0 : 0 ≤ x) (h1 : x ≤ (l.length : Int)) : (∀ y ∈ nxt l x, 0 ≤ y ∧ y ≤ (l.length : Int)) ∧ (nxt l x).length ≤ 2 := by
  unfold nxt
  by_cases e : x = (l.length : Int)
  · rw [if_pos e]; simp
  · have hi := prog_ins h h0 (by omega)
    rw [if_neg e]
    by_cases e12 : (rd_T52 l x).f0 = 12
    · rw [if_pos e12]; simp
    · rw [if_neg e12]
      by_cases e11 : (rd_T52 l x).f0 = 11
      · rw [if_pos e11]; have := ins_target hi (.inr e11); simpa using this
      · rw [if_neg e11]
        by_cases e10 : (rd_T52 l x).f0 = 10
        · rw [if_pos e10]
          have ht := ins_target hi (.inl e10)
          refine ⟨fun y hy => ?_, Nat.le_trans (srt_len _) (by simp)⟩
          have := ((srt_spec _).2 y).1 hy
          simp only [List.mem_cons, List.not_mem_nil, or_false] at this
          rcases this with rfl | rfl
          · exact ht
          · omega
        · rw [if_neg e10]
          refine ⟨fun y hy => ?_, by simp⟩
          simp only [List.mem_cons, List.not_mem_nil, or_false] at hy
          subst hy
          omega
theorem nxt_exit (l : List S52) : nxt l (l.length : Int) = [] := by unfold nxt; rw [if_pos rfl]
theorem nxt_ne {l : List S52} {x : Int} (h1 : x < (l.length : Int)) : nxt l x ≠ [] := by
  unfold nxt
  rw [if_neg (by omega), srt_pair]
  repeat' split
  all_goals simp
theorem isNode_val (l : List S52) (a : Int) : impl_isNode.f l a = some (progB l && inB a 0 (l.length : Int)) := by
  unfold impl_isNode.f
  rw [progOk_val, Option.bind_some]
  cases progB l
  · rfl
  · rw [if_pos rfl, within_val]; rfl
theorem inB_iff {a lo hi : Int} : inB a lo hi = true ↔ lo ≤ a ∧ a ≤ hi := by unfold inB; simp
theorem inB_not {a lo hi : Int} : inB a lo hi = false ↔ ¬ (lo ≤ a ∧ a ≤ hi) := by rw [← inB_iff]; simp
end Go.Proofs.Ytbkgklkiennpbaa.HB
/- The branches of a program, as the program tells them. -/
set_option linter.unusedVariables false
set_option linter.unusedSimpArgs false
namespace Go.Proofs.Ytbkgklkiennpbaa.HB
open Go Go.RowKit Go.Proofs.YtbkgklkiennpbaaW.PrintWords Go.Proofs.YtbkgklkiennpbaaW.PrintLast Go.Proofs.Ytbkgklkiennpbaa.Aid

def isBr (l : List S52) (n : Nat) : Bool := (rd_T52 l (n : Int)).f0 == 10 && (rd_T52 l (n : Int)).f2 != (n : Int) + 1
def brsTo (l : List S52) (n : Nat) : List Int := ((List.range n).filter (isBr l)).map fun j : Nat => (j : Int)
theorem brsTo_succ (l : List S52) (n : Nat) : brsTo l (n + 1) = brsTo l n ++ (if isBr l n = true then [(n : Int)] else []) := by
  unfold brsTo
  rw [List.range_succ, List.filter_append, List.map_append]
  congr 1
  by_cases h : isBr l n = true
  · rw [if_pos h]; simp [h]
  · rw [if_neg h]; simp [h]
theorem brsTo_len (l : List S52) (n : Nat) : (brsTo l n).length ≤ n := by
  unfold brsTo
  rw [List.length_map]
  exact Nat.le_trans (List.length_filter_le _ _) (by simp)
def brs (l : List S52) : List Int := if progB l = true then brsTo l l.length else []
theorem brs_len (l : List S52) : (brs l).length ≤ 32 := by
  unfold brs
  split
  · exact Nat.le_trans (brsTo_len l _) (prog_small (by assumption))
  · simp
theorem nxt_two {l : List S52} {n : Nat} (hn : n < l.length) : (nxt l (n : Int)).length = 2 ↔ isBr l n = true := by
  unfold nxt isBr
  rw [if_neg (by omega), srt_pair]
  by_cases e12 : (rd_T52 l (n : Int)).f0 = 12
  · rw [if_pos e12]; simp [e12]
  · rw [if_neg e12]
    by_cases e11 : (rd_T52 l (n : Int)).f0 = 11
    · rw [if_pos e11]; simp [e11]
    · rw [if_neg e11]
      by_cases e10 : (rd_T52 l (n : Int)).f0 = 10
      · rw [if_pos e10]
        by_cases e : (rd_T52 l (n : Int)).f2 = (n : Int) + 1
        · rw [if_pos e]; simp [e]
        · rw [if_neg e]
          split <;> simp [e10, e]
      · rw [if_neg e10]; simp [e10]
theorem branches_ev (l : List S52) (hl : l.length ≤ 1048576) : Ev (fun k => impl_BranchesOf.f k l) (brs l) := by
  unfold brs
  by_cases hp : progB l = true
  · have h := loop_to (fun k n (s : List Int) => impl_BranchesOf.l0 k l s (l.length : Int) (n : Int)) l.length (fun n s => s = brsTo l n) (brsTo l l.length)
      (fun n s hn hI => Or.inl ⟨brsTo l (n + 1), rfl, 0, fun k _ => by
        have hs : s = brsTo l n := hI
        subst hs
        have hb := nxt_two hn
        have := brsTo_len l n
        simp only [impl_BranchesOf.l0]
        rw [if_pos (by omega), next_val l hl (by omega) (by omega), Option.bind_some, brsTo_succ, wrap_succ hn (by omega)]
        by_cases h : isBr l n = true
        · have h2 := hb.2 h
          rw [if_pos (by omega), if_pos (by omega), if_pos h]
        · have h2 : ¬ (nxt l (n : Int)).length = 2 := fun h2 => h (hb.1 h2)
          rw [if_neg (by omega), if_neg h, List.append_nil]⟩)
      (fun s hI => ⟨0, fun k _ => by
        have hs : s = brsTo l l.length := hI
        simp only [impl_BranchesOf.l0]
        rw [if_neg (by omega), hs]⟩) 0 [] (Nat.zero_le _) rfl
    rw [if_pos hp]
    refine Ev.congr (fun k => ?_) h
    unfold impl_BranchesOf.f
    rw [progOk_val, Option.bind_some, if_pos hp]
    rfl
  · rw [if_neg hp]
    refine Ev.congr (fun k => ?_) (ev_some _)
    unfold impl_BranchesOf.f
    rw [progOk_val, Option.bind_some, if_neg hp]
end Go.Proofs.Ytbkgklkiennpbaa.HB
/- The reference's draws: each gives a number of its range, whatever the bytes. No condition. -/
set_option linter.unusedVariables false
set_option linter.unusedSimpArgs false
namespace Go.Proofs.Ytbkgklkiennpbaa.HB
open Go Go.RowKit Go.Proofs.YtbkgklkiennpbaaW.PrintWords Go.Proofs.YtbkgklkiennpbaaW.PrintLast Go.Proofs.Ytbkgklkiennpbaa.Aid

/-- A reader's state: its place lies in the code or behind it. -/
def Rok (b : List Int) (i : Int) : Prop := 0 ≤ i ∧ i ≤ 140737488355328
theorem byte_ok {b : List Int} (hb : b.length ≤ 140737488351232) {i h : Int} (hi : Rok b i) : ∃ x i' h', spec_l01Byte.f b i h = some (x, i', h') ∧ 0 ≤ x ∧ x ≤ 255 ∧ Rok b i' := by
  unfold spec_l01Byte.f
  obtain ⟨h0, h1⟩ := hi
  by_cases hlt : i < (b.length : Int)
  · rw [if_pos hlt, if_pos h0]
    refine ⟨_, _, _, rfl, ?_, ?_, ?_⟩
    · rw [and_255]; omega
    · rw [and_255]; omega
    · rw [wrap_id (by omega) (by omega)]
      exact ⟨by omega, by omega⟩
  · rw [if_neg hlt]
    refine ⟨_, _, _, rfl, ?_, ?_, h0, h1⟩
    · rw [and_255]; omega
    · rw [and_255]; omega
theorem tmod_below {x n : Int} (h0 : 0 ≤ x) (hn : 0 < n) : 0 ≤ x.tmod n ∧ x.tmod n < n := by
  rw [Int.tmod_eq_emod_of_nonneg h0]
  exact ⟨Int.emod_nonneg _ (by omega), Int.emod_lt_of_pos _ hn⟩
/-- A draw below n. -/
theorem below_ok {b : List Int} (hb : b.length ≤ 140737488351232) {i h : Int} (hi : Rok b i) (n : Int) : ∃ x i' h', spec_l01Below.f b i h n = some (x, i', h') ∧ 0 ≤ x ∧ (0 < n → x < n) ∧ (n ≤ 0 → x = 0) ∧ Rok b i' := by
  unfold spec_l01Below.f
  by_cases h0 : n ≤ 0
  · rw [if_pos h0]
    exact ⟨_, _, _, rfl, by omega, by omega, fun _ => rfl, hi⟩
  · rw [if_neg h0]
    by_cases h1 : n ≤ 256
    · rw [if_pos h1]
      obtain ⟨x, i1, g1, e, hx0, hx1, hi1⟩ := byte_ok (h := h) hb hi
      rw [e, Option.bind_some, if_neg (by omega)]
      have := tmod_below (x := x) (n := n) hx0 (by omega)
      exact ⟨_, _, _, rfl, this.1, fun _ => this.2, by omega, hi1⟩
    · rw [if_neg h1]
      obtain ⟨x, i1, g1, e, hx0, hx1, hi1⟩ := byte_ok (h := h) hb hi
      obtain ⟨y, i2, g2, e2, hy0, hy1, hi2⟩ := byte_ok (h := g1) hb hi1
      obtain ⟨z, i3, g3, e3, hz0, hz1, hi3⟩ := byte_ok (h := g2) hb hi2
      obtain ⟨u, i4, g4, e4, hu0, hu1, hi4⟩ := byte_ok (h := g3) hb hi3
      simp only [e, e2, e3, e4, Option.bind_some]
      rw [if_neg (by omega)]
      have hw : 0 ≤ wrap64 (wrap64 (wrap64 (wrap64 (x * 16777216) + wrap64 (y * 65536)) + wrap64 (z * 256)) + u) := by
        unfold wrap64; omega
      have := tmod_below (x := wrap64 (wrap64 (wrap64 (wrap64 (x * 16777216) + wrap64 (y * 65536)) + wrap64 (z * 256)) + u)) (n := n) hw (by omega)
      exact ⟨_, _, _, rfl, this.1, fun _ => this.2, by omega, hi4⟩
/-- A new reader. -/
theorem new_ok (b : List Int) : ∃ i h, Ev (fun k => spec_l01New.f k b) (b, i, h) ∧ Rok b i := by
  have key := loop_ev (fun k n (s : Int) => spec_l01New.l0 k b s (n : Int)) (min b.length 4000) (fun _ _ => True) (fun r : List Int × Int × Int => ∃ h, r = (b, 0, h))
    (fun n s hn _ => Or.inl ⟨Go.bits .and .i64 (wrap64 ((wrap64 ((wrap64 (s * 131)) + (wrap64 (rd b (n : Int))))) + 7)) 1073741823, trivial, 0, fun k _ => by
      simp only [spec_l01New.l0]
      rw [if_pos (by omega), if_pos (by omega), if_pos (by omega), wrap_succ (N := 4000) (by omega) (by omega)]⟩)
    (fun s _ => ⟨(b, 0, s), ⟨s, rfl⟩, 0, fun k _ => by
      simp only [spec_l01New.l0]
      by_cases h : b.length ≤ 4000
      · rw [if_neg (by omega)]
      · rw [if_pos (by omega), if_neg (by omega)]⟩) 0 (wrap64 (98561 + (b.length : Int))) (Nat.zero_le _) trivial
  obtain ⟨r, ⟨h, rfl⟩, hev⟩ := key
  exact ⟨0, h, hev, by unfold Rok; omega⟩
end Go.Proofs.Ytbkgklkiennpbaa.HB
/- The programs with jumps to anywhere that the reference draws: valid, of at most eight instructions. -/
set_option linter.unusedVariables false
set_option linter.unusedSimpArgs false
namespace Go.Proofs.Ytbkgklkiennpbaa.HB
open Go Go.RowKit Go.Proofs.YtbkgklkiennpbaaW.PrintWords Go.Proofs.YtbkgklkiennpbaaW.PrintLast Go.Proofs.Ytbkgklkiennpbaa.Aid

theorem plain_ok {b : List Int} (hb : b.length ≤ 140737488351232) {i h : Int} (hi : Rok b i) :
    ∃ op x y z i' h', spec_l04Plain.f b i h = some (op, x, y, z, i', h') ∧ Rok b i' ∧ (1 ≤ op ∧ op ≤ 9 ∧ ∀ s, 0 ≤ s → s ≤ 32 → insOkB op x y z s = true) := by
  unfold spec_l04Plain.f
  obtain ⟨n, i1, g1, e1, hn0, hn1, _, hi1⟩ := below_ok (h := h) hb hi 9
  obtain ⟨m, i2, g2, e2, hm0, hm1, _, hi2⟩ := below_ok (h := g1) hb hi1 4
  have hn1 := hn1 (by omega)
  have hm1 := hm1 (by omega)
  simp only [e1, e2, Option.bind_some]
  rw [wrap_id (n := 1 + n) (by omega) (by omega)]
  by_cases c1 : 1 + n = 1
  · rw [if_pos c1]
    obtain ⟨u, i3, g3, e3, hu0, hu1, _, hi3⟩ := below_ok (h := g2) hb hi2 6
    have hu1 := hu1 (by omega)
    rw [e3, Option.bind_some, c1]
    refine ⟨_, _, _, _, _, _, rfl, hi3, by omega, by omega, fun s h0 h1 => ?_⟩
    simp [insOkB, inB]; omega
  · rw [if_neg c1]
    by_cases c2 : 1 + n = 8
    · rw [if_pos c2, c2]
      refine ⟨_, _, _, _, _, _, rfl, hi2, by omega, by omega, fun s h0 h1 => ?_⟩
      simp [insOkB, inB]; omega
    · rw [if_neg c2]
      obtain ⟨u, i3, g3, e3, hu0, hu1, _, hi3⟩ := below_ok (h := g2) hb hi2 4
      have hu1 := hu1 (by omega)
      rw [e3]
      by_cases c3 : 1 + n = 2
      · rw [if_pos c3, c3]
        refine ⟨_, _, _, _, _, _, rfl, hi3, by omega, by omega, fun s h0 h1 => ?_⟩
        simp [insOkB, inB]; omega
      · rw [if_neg c3, Option.bind_some]
        obtain ⟨v, i4, g4, e4, hv0, hv1, _, hi4⟩ := below_ok (h := g3) hb hi3 4
        have hv1 := hv1 (by omega)
        rw [e4]
        refine ⟨_, _, _, _, _, _, rfl, hi4, by omega, by omega, fun s h0 h1 => ?_⟩
        unfold insOkB
        rw [if_neg (by omega), if_neg (by omega), if_neg (by omega), if_neg (by omega), if_neg (by omega), if_neg (by omega), if_pos (by omega)]
        simp [inB]; omega
theorem wild_ok {b : List Int} (hb : b.length ≤ 140737488351232) : ∃ p : List S52, Ev (fun k => spec_DrawWild.f k b) p ∧ progB p = true ∧ p.length ≤ 8 := by
  obtain ⟨i, h, ⟨K0, h0⟩, hi⟩ := new_ok b
  obtain ⟨N, i1, g1, e1, hN0, hN1, _, hi1⟩ := below_ok (h := h) hb hi 9
  have hN1 := hN1 (by omega)
  have key : ∀ d m (p : List S52) i h, N.toNat - m = d → m ≤ N.toNat → p.length = m → (∀ x ∈ p, insOkB x.f0 x.f1 x.f2 x.f3 N = true) → Rok b i →
      ∃ r : List S52 × Int × Int, (r.1.length = N.toNat ∧ ∀ x ∈ r.1, insOkB x.f0 x.f1 x.f2 x.f3 N = true) ∧ Ev (fun k => spec_l07Wild.l0 k p N (m : Int) b i h) r := by
    intro d
    induction d with
    | zero =>
      intro m p i h hd hm hp hx hi
      refine ⟨(p, i, h), ⟨by simp only; omega, hx⟩, 1, fun k hk => ?_⟩
      obtain ⟨k, rfl⟩ : ∃ j, k = j + 1 := ⟨k - 1, by omega⟩
      simp only [spec_l07Wild.l0]
      rw [if_neg (by omega)]
    | succ d ih =>
      intro m p i h hd hm hp hx hi
      obtain ⟨t, i2, g2, e2, ht0, ht1, _, hi2⟩ := below_ok (h := h) hb hi 6
      have hw : wrap64 ((m : Int) + 1) = ((m + 1 : Nat) : Int) := wrap_succ (N := 9) (by omega) (by omega)
      have hwN : wrap64 (N + 1) = N + 1 := wrap_id (by omega) (by omega)
      have next : ∀ (x : S52) i' h', insOkB x.f0 x.f1 x.f2 x.f3 N = true → Rok b i' → ∃ r : List S52 × Int × Int, (r.1.length = N.toNat ∧ ∀ x ∈ r.1, insOkB x.f0 x.f1 x.f2 x.f3 N = true) ∧ Ev (fun k => spec_l07Wild.l0 k (p ++ [x]) N ((m + 1 : Nat) : Int) b i' h') r := by
        intro x i' h' hok hi'
        refine ih (m + 1) (p ++ [x]) i' h' (by omega) (by omega) (by simp [hp]) (fun y hy => ?_) hi'
        rcases List.mem_append.1 hy with hy | hy
        · exact hx y hy
        · rw [List.mem_singleton.1 hy]; exact hok
      have via : ∀ r, (∃ K, ∀ k, K ≤ k → spec_l07Wild.j1 k p N (m : Int) t ((t == 0) || (t == 1)) b i2 g2 = some r) → Ev (fun k => spec_l07Wild.l0 k p N (m : Int) b i h) r := by
        intro r ⟨K, hK⟩
        refine ⟨K + 1, fun k hk => ?_⟩
        obtain ⟨k, rfl⟩ : ∃ j, k = j + 1 := ⟨k - 1, by omega⟩
        simp only [spec_l07Wild.l0, e2, Option.bind_some]
        rw [if_pos (by omega)]
        have := hK k (by omega)
        by_cases c0 : t = 0
        · have hz : (t == 0) = true := by simpa using c0
          rw [hz, Bool.true_or] at this
          rw [if_pos c0]; rw [← hz] at this; exact this
        · have hz : (t == 0) = false := by simpa using c0
          rw [hz, Bool.false_or] at this
          rw [if_neg c0]; exact this
      by_cases c01 : t = 0 ∨ t = 1
      · obtain ⟨u, i3, g3, e3, hu0, hu1, _, hi3⟩ := below_ok (h := g2) hb hi2 4
        obtain ⟨v, i4, g4, e4, hv0, hv1, _, hi4⟩ := below_ok (h := g3) hb hi3 (N + 1)
        have hu1 := hu1 (by omega)
        have hv1 := hv1 (by omega)
        obtain ⟨r, hr, K, hK⟩ := next ⟨10, u, v, 0⟩ i4 g4 (by simp [insOkB, inB]; omega) hi4
        refine ⟨r, hr, via r ⟨K + 1, fun k hk => ?_⟩⟩
        obtain ⟨k, rfl⟩ : ∃ j, k = j + 1 := ⟨k - 1, by omega⟩
        have hc : ((t == 0) || (t == 1)) = true := by simpa using c01
        simp only [spec_l07Wild.j1, hc, if_true, e3, hwN, e4, Option.bind_some]
        rw [if_pos (by omega), hw]
        exact hK k (by omega)
      · have hc : ((t == 0) || (t == 1)) = false := by
          cases h : ((t == 0) || (t == 1))
          · rfl
          · exact absurd (by simpa using h) c01
        by_cases c2 : t = 2
        · obtain ⟨v, i4, g4, e4, hv0, hv1, _, hi4⟩ := below_ok (h := g2) hb hi2 (N + 1)
          have hv1 := hv1 (by omega)
          obtain ⟨r, hr, K, hK⟩ := next ⟨11, 0, v, 0⟩ i4 g4 (by simp [insOkB, inB]; omega) hi4
          refine ⟨r, hr, via r ⟨K + 1, fun k hk => ?_⟩⟩
          obtain ⟨k, rfl⟩ : ∃ j, k = j + 1 := ⟨k - 1, by omega⟩
          simp only [spec_l07Wild.j1, hc, hwN, e4, Option.bind_some]
          rw [if_neg (by decide), if_pos c2, if_pos (by omega), hw]
          exact hK k (by omega)
        · by_cases c3 : t = 3
          · obtain ⟨r, hr, K, hK⟩ := next ⟨12, 0, 0, 0⟩ i2 g2 (by simp [insOkB, inB]; omega) hi2
            refine ⟨r, hr, via r ⟨K + 1, fun k hk => ?_⟩⟩
            obtain ⟨k, rfl⟩ : ∃ j, k = j + 1 := ⟨k - 1, by omega⟩
            simp only [spec_l07Wild.j1, hc]
            rw [if_neg (by decide), if_neg c2, if_pos c3, if_pos (by omega), hw]
            exact hK k (by omega)
          · obtain ⟨op, x, y, z, i4, g4, e4, hi4, _, _, hok⟩ := plain_ok (h := g2) hb hi2
            obtain ⟨r, hr, K, hK⟩ := next ⟨op, x, y, z⟩ i4 g4 (hok N hN0 (by omega)) hi4
            refine ⟨r, hr, via r ⟨K + 1, fun k hk => ?_⟩⟩
            obtain ⟨k, rfl⟩ : ∃ j, k = j + 1 := ⟨k - 1, by omega⟩
            simp only [spec_l07Wild.j1, hc, e4, Option.bind_some]
            rw [if_neg (by decide), if_neg c2, if_neg c3, if_pos (by omega), hw]
            exact hK k (by omega)
  obtain ⟨r, ⟨hr, hx⟩, K1, h1⟩ := key N.toNat 0 [] i1 g1 (by omega) (by omega) rfl (fun x hx => by cases hx) hi1
  refine ⟨r.1, ⟨K0 + K1, fun k hk => ?_⟩, ?_, by omega⟩
  · have e0 : spec_l01New.f k b = some (b, i, h) := h0 k (by omega)
    have e3 : spec_l07Wild.l0 k [] N 0 b i1 g1 = some r := h1 k (by omega)
    show spec_DrawWild.f k b = some r.1
    unfold spec_DrawWild.f spec_l07Wild.f
    simp only [e0, e1, e3, Option.bind_some]
  · unfold progB
    rw [Bool.and_eq_true, List.all_eq_true]
    refine ⟨by simp; omega, fun x hxm => ?_⟩
    unfold okIns
    have : ((r.1.length : Nat) : Int) = N := by omega
    rw [this]
    exact hx x hxm
end Go.Proofs.Ytbkgklkiennpbaa.HB
/- Whether a number is in a row, as the laws look. -/
set_option linter.unusedVariables false
set_option linter.unusedSimpArgs false
namespace Go.Proofs.Ytbkgklkiennpbaa.HB
open Go Go.RowKit Go.Proofs.YtbkgklkiennpbaaW.PrintWords Go.Proofs.YtbkgklkiennpbaaW.PrintLast Go.Proofs.Ytbkgklkiennpbaa.Aid

theorem has_ev (l : List Int) (hl : l.length ≤ 1048576) (x : Int) : Ev (fun k => laws_has.f k l x) (decide (x ∈ l)) := by
  have h := loop_to (fun k n (_ : Unit) => laws_has.l0 k l x (n : Int)) l.length (fun n _ => ∀ j, j < n → l[j]? ≠ some x) (decide (x ∈ l))
    (fun n s hn hI => by
      by_cases e : rd l (n : Int) = x
      · refine Or.inr ⟨0, fun k _ => ?_⟩
        simp only [laws_has.l0]
        rw [if_pos (by omega), if_pos (by omega), if_pos e]
        have : x ∈ l := List.mem_of_getElem? (i := n) (by rw [rd_at hn, e])
        simp [this]
      · refine Or.inl ⟨(), fun j hj => ?_, 0, fun k _ => ?_⟩
        · by_cases h : j = n
          · subst h; rw [rd_at hn]; simpa using e
          · exact hI j (by omega)
        · simp only [laws_has.l0]
          rw [if_pos (by omega), if_pos (by omega), if_neg e, wrap_succ hn (by omega)])
    (fun s hI => ⟨0, fun k _ => by
      simp only [laws_has.l0]
      rw [if_neg (by omega)]
      have : ¬ x ∈ l := by
        intro hx
        obtain ⟨j, hj, e⟩ := List.mem_iff_getElem.1 hx
        exact hI j hj (by rw [List.getElem?_eq_getElem hj, e])
      simp [this]⟩) 0 () (Nat.zero_le _) (fun j hj => absurd hj (Nat.not_lt_zero _))
  exact Ev.congr (fun k => rfl) h
end Go.Proofs.Ytbkgklkiennpbaa.HB
