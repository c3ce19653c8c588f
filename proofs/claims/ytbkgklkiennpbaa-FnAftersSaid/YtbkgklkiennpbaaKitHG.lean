import Derived.Test.YtbkgklkiennpbaaBase
import Derived.Test.YtbkgklkiennpbaaHG5
import Derived.Test.YtbkgklkiennpbaaHG6
import Derived.Test.YtbkgklkiennpbaaHG7
import Derived.Test.YtbkgklkiennpbaaHG8
import Derived.Test.YtbkgklkiennpbaaHG2
import Derived.Test.YtbkgklkiennpbaaHG1
import Derived.Test.YtbkgklkiennpbaaHG3
/- Ways that begin elsewhere, and their first steps. No condition. -/
set_option linter.unusedVariables false
namespace Go.Proofs.Ytbkgklkiennpbaa.Aid
open Go Go.RowKit Go.Proofs.YtbkgklkiennpbaaW.PrintWords Go.Proofs.YtbkgklkiennpbaaW.PrintLast

theorem Rch.trans {nx : Int → List Int} {w : Int} {S S' : List Int} (h : ∀ s ∈ S', s ≠ w → Rch nx w S s) {x : Int} (hx : Rch nx w S' x) : Rch nx w S x := by
  induction hx with
  | start hs hw => exact h _ hs hw
  | step _ hy hw ih => exact .step ih hy hw
theorem Rch.first {nx : Int → List Int} {w v x : Int} (h : Rch nx w [v] x) : x = v ∨ ∃ y ∈ nx v, y ≠ w ∧ Rch nx w [y] x := by
  induction h with
  | start hs hw => exact .inl (List.mem_singleton.1 hs)
  | step hx hy hw ih =>
    rcases ih with rfl | ⟨y, hy', hyw, ih⟩
    · exact .inr ⟨_, hy, hw, .start (List.mem_singleton.2 rfl) hw⟩
    · exact .inr ⟨y, hy', hyw, .step ih hy hw⟩
theorem Rch.not_w {nx : Int → List Int} {w : Int} {S : List Int} {x : Int} (h : Rch nx w S x) : x ≠ w := by
  cases h <;> assumption
end Go.Proofs.Ytbkgklkiennpbaa.Aid
/- Which nodes lie on every way to the exit, and which of them comes first. No condition. -/
set_option linter.unusedVariables false
namespace Go.Proofs.Ytbkgklkiennpbaa.Aid
open Go Go.RowKit Go.Proofs.YtbkgklkiennpbaaW.PrintWords Go.Proofs.YtbkgklkiennpbaaW.PrintLast

theorem Rch.part {nx : Int → List Int} {S : List Int} {x v : Int} (h : Rch nx (-1) S v) : Rch nx x S v ∨ Rch nx (-1) [x] v := by
  induction h with
  | @start s hs hw =>
    by_cases e : s = x
    · subst e; exact .inr (.start (List.mem_singleton.2 rfl) hw)
    · exact .inl (.start hs e)
  | @step u y hx hy hw ih =>
    rcases ih with ih | ih
    · by_cases e : y = x
      · subst e; exact .inr (.start (List.mem_singleton.2 rfl) hw)
      · exact .inl (.step ih hy e)
    · exact .inr (.step ih hy hw)
theorem Rch.self {nx : Int → List Int} {x v : Int} (h : Rch nx x [x] v) : False := by
  induction h with
  | start hs hw => exact hw (List.mem_singleton.1 hs)
  | step _ _ _ ih => exact ih
theorem first_reached {nx : Int → List Int} {a : Int} {D : Int → Prop} (ha : ¬ D a) {v : Int} (h : Rch nx (-1) [a] v) :
    (∃ x, D x ∧ ∀ y, D y → y ≠ x → Rch nx y [a] x) ∨ (¬ D v ∧ ∀ y, D y → Rch nx y [a] v) := by
  induction h with
  | @start s hs hw =>
    obtain rfl := List.mem_singleton.1 hs
    exact .inr ⟨ha, fun y hy => .start hs (fun e => ha (e ▸ hy))⟩
  | @step u z hx hz hw ih =>
    rcases ih with ih | ⟨hu, ih⟩
    · exact .inl ih
    · by_cases hd : D z
      · exact .inl ⟨z, hd, fun y hy hne => .step (ih y hy) hz (fun e => hne e.symm)⟩
      · exact .inr ⟨hd, fun y hy => .step (ih y hy) hz (fun e => hd (e ▸ hy))⟩
/-- Of the nodes on every way from a to e, but for a itself, one lies ahead of all others. -/
theorem first_on {nx : Int → List Int} {a e : Int} {D : Int → Prop} (ha : ¬ D a) (hD : ∀ d, D d → ¬ Rch nx d [a] e) (he : Rch nx (-1) [a] e) (hDe : D e) :
    ∃ x, D x ∧ ∀ y, D y → Rch nx (-1) [x] e ∧ ¬ Rch nx y [x] e := by
  rcases first_reached ha he with ⟨x, hx, h⟩ | ⟨h, _⟩
  · refine ⟨x, hx, fun y hy => ⟨?_, fun hr => ?_⟩⟩
    · rcases Rch.part (x := x) he with h | h
      · exact absurd h (hD x hx)
      · exact h
    · by_cases e' : y = x
      · subst e'; exact Rch.self hr
      · refine hD y hy (Rch.trans (fun s hs hw => ?_) hr)
        rw [List.mem_singleton.1 hs]
        exact h y hy e'
  · exact absurd hDe h
end Go.Proofs.Ytbkgklkiennpbaa.Aid
/- Whether an instruction is valid, as the program's table tells it. No condition. -/
set_option linter.unusedVariables false
set_option linter.unusedSimpArgs false
namespace Go.Proofs.Ytbkgklkiennpbaa.HG
open Go Go.RowKit Go.Proofs.YtbkgklkiennpbaaW.PrintWords Go.Proofs.YtbkgklkiennpbaaW.PrintLast Go.Proofs.Ytbkgklkiennpbaa.Aid

def inB (n lo hi : Int) : Bool := decide (lo ≤ n) && decide (n ≤ hi)
def insOkB (op a b c s : Int) : Bool :=
  inB s 0 32 && (if op = 0 ∨ op = 12 ∨ op = 16 then a == 0 && b == 0 && c == 0
    else if op = 1 then inB a 0 3 && inB b 0 65535 && c == 0
    else if op = 2 ∨ op = 13 ∨ op = 14 ∨ op = 15 then inB a 0 3 && inB b 0 3 && c == 0
    else if op = 8 then inB a 0 3 && b == 0 && c == 0
    else if op = 10 then inB a 0 3 && inB b 0 s && c == 0
    else if op = 11 then a == 0 && inB b 0 s && c == 0
    else if 3 ≤ op ∧ op ≤ 9 then inB a 0 3 && inB b 0 3 && inB c 0 3
    else false)
theorem within_val (a b c : Int) : impl_within.f a b c = some (inB a b c) := by
  unfold impl_within.f inB
  by_cases h : b ≤ a
  · rw [if_pos (show a ≥ b from h)]; simp [h]
  · rw [if_neg (show ¬ a ≥ b from h)]; simp [h]
theorem isReg_val (a : Int) : impl_isReg.f a = some (inB a 0 3) := by unfold impl_isReg.f; rw [within_val]; rfl
theorem isWord_val (a : Int) : impl_IsWord.f a = some (inB a 0 65535) := by unfold impl_IsWord.f; rw [within_val]; rfl
def fieldB (form n s : Int) : Bool := if form = 82 then inB n 0 3 else if form = 87 then inB n 0 65535 else if form = 84 then inB n 0 s else n == 0
theorem isField_val (form n s : Int) : impl_isField.f form n s = some (fieldB form n s) := by
  unfold impl_isField.f fieldB
  rw [isReg_val, isWord_val, within_val]
  by_cases h : form = 82
  · simp [h]
  · by_cases h1 : form = 87
    · simp [h1]
    · by_cases h2 : form = 84 <;> simp [h, h1, h2]
theorem form_val (op : Int) (x y z : UInt8) (f : ByteArray) (hf : impl_formOf.f op = some f) (he : f = ⟨#[x, y, z]⟩) (a b c s : Int) :
    impl_InsOk.f op a b c s = some (inB s 0 32 && (fieldB (x.toNat : Int) a s && (fieldB (y.toNat : Int) b s && fieldB (z.toNat : Int) c s))) := by
  subst he
  unfold impl_InsOk.f
  rw [hf, Option.bind_some, if_neg (by rw [toList_data]; simp), within_val, Option.bind_some]
  cases inB s 0 32
  · rfl
  · rw [if_pos rfl, if_pos (show (0 : Int) < (((⟨#[x, y, z]⟩ : ByteArray).size : Nat) : Int) from by show (0 : Int) < ((3 : Nat) : Int); decide), show bt ⟨#[x, y, z]⟩ 0 = (x.toNat : Int) from rfl, isField_val, Option.bind_some]
    cases fieldB (x.toNat : Int) a s
    · rfl
    · rw [if_pos rfl, if_pos (show (1 : Int) < (((⟨#[x, y, z]⟩ : ByteArray).size : Nat) : Int) from by show (1 : Int) < ((3 : Nat) : Int); decide), show bt ⟨#[x, y, z]⟩ 1 = (y.toNat : Int) from rfl, isField_val, Option.bind_some]
      cases fieldB (y.toNat : Int) b s
      · rfl
      · rw [if_pos rfl, if_pos (show (2 : Int) < (((⟨#[x, y, z]⟩ : ByteArray).size : Nat) : Int) from by show (2 : Int) < ((3 : Nat) : Int); decide), show bt ⟨#[x, y, z]⟩ 2 = (z.toNat : Int) from rfl, isField_val, Option.bind_some]
        rfl
theorem insOk_val (op a b c s : Int) : impl_InsOk.f op a b c s = some (insOkB op a b c s) := by
  by_cases h : 0 ≤ op ∧ op ≤ 16
  · have hc : op = 0 ∨ op = 1 ∨ op = 2 ∨ op = 3 ∨ op = 4 ∨ op = 5 ∨ op = 6 ∨ op = 7 ∨ op = 8 ∨ op = 9 ∨ op = 10 ∨ op = 11 ∨ op = 12 ∨ op = 13 ∨ op = 14 ∨ op = 15 ∨ op = 16 := by omega
    rcases hc with rfl | rfl | rfl | rfl | rfl | rfl | rfl | rfl | rfl | rfl | rfl | rfl | rfl | rfl | rfl | rfl | rfl <;>
      (rw [form_val _ _ _ _ _ rfl rfl]; simp [insOkB, fieldB, Bool.and_assoc])
  · have hf : impl_formOf.f op = some ⟨#[]⟩ := by
      unfold impl_formOf.f
      rw [within_val, show inB op 0 16 = false by unfold inB; simp; omega]
      rfl
    have h0 : ¬ (op = 0 ∨ op = 12 ∨ op = 16) := by omega
    have h1 : ¬ op = 1 := by omega
    have h2 : ¬ (op = 2 ∨ op = 13 ∨ op = 14 ∨ op = 15) := by omega
    have h3 : ¬ op = 8 := by omega
    have h4 : ¬ op = 10 := by omega
    have h5 : ¬ op = 11 := by omega
    have h6 : ¬ (3 ≤ op ∧ op ≤ 9) := by omega
    unfold impl_InsOk.f insOkB
    rw [hf, Option.bind_some, if_pos (by rw [toList_data]), if_neg h0, if_neg h1, if_neg h2, if_neg h3, if_neg h4, if_neg h5, if_neg h6]
    simp
end Go.Proofs.Ytbkgklkiennpbaa.HG
/- Whether a program is valid, as the program tells it. No condition. -/
set_option linter.unusedVariables false
set_option linter.unusedSimpArgs false
namespace Go.Proofs.Ytbkgklkiennpbaa.HG
open Go Go.RowKit Go.Proofs.YtbkgklkiennpbaaW.PrintWords Go.Proofs.YtbkgklkiennpbaaW.PrintLast Go.Proofs.Ytbkgklkiennpbaa.Aid

def okIns (m : Nat) (x : S52) : Bool := insOkB x.f0 x.f1 x.f2 x.f3 (m : Int)
def progB (l : List S52) : Bool := decide (l.length ≤ 32) && l.all (okIns l.length)
theorem rdP_at {l : List S52} {n : Nat} (h : n < l.length) : l[n]? = some (rd_T52 l (n : Int)) := by
  simp [rd_T52, List.getD_eq_getElem?_getD, h]
theorem progOk_val (l : List S52) : impl_ProgramOk.f l = some (progB l) := by
  unfold impl_ProgramOk.f progB
  by_cases h : l.length ≤ 32
  · have hall : l.all (fun x => (impl_InsOk.f x.f0 x.f1 x.f2 x.f3 (l.length : Int)).isSome) = true := by
      rw [List.all_eq_true]; intro x _; rw [insOk_val]; rfl
    rw [if_pos h, if_pos hall]
    simp only [h, decide_true, Bool.true_and]
    congr 1
    rw [List.any_eq_not_all_not, Bool.not_not]
    congr 1
    funext x
    unfold impl_ProgramOk.bad okIns
    rw [insOk_val]
    cases insOkB x.f0 x.f1 x.f2 x.f3 (l.length : Int) <;> rfl
  · rw [if_neg h]
    simp [h]
end Go.Proofs.Ytbkgklkiennpbaa.HG
/- The successors of a node of a valid program, as the program tells them. -/
set_option linter.unusedVariables false
set_option linter.unusedSimpArgs false
namespace Go.Proofs.Ytbkgklkiennpbaa.HG
open Go Go.RowKit Go.Proofs.YtbkgklkiennpbaaW.PrintWords Go.Proofs.YtbkgklkiennpbaaW.PrintLast Go.Proofs.Ytbkgklkiennpbaa.Aid

def nxt (l : List S52) (a : Int) : List Int :=
  if a = (l.length : Int) then [] else if (rd_T52 l a).f0 = 12 then [(l.length : Int)] else if (rd_T52 l a).f0 = 11 then [(rd_T52 l a).f2]
  else if (rd_T52 l a).f0 = 10 then srt [(rd_T52 l a).f2, a + 1] else [a + 1]
theorem srt_pair (x y : Int) : srt [x, y] = if x = y then [x] else if x < y then [x, y] else [y, x] := by
  by_cases h : x = y
  · subst h
    rw [if_pos rfl]
    exact srt_eq (by simp [Asc]) (by simp)
  · rw [if_neg h]
    by_cases h2 : x < y
    · rw [if_pos h2]
      exact srt_eq (by simp [Asc, h2]) (by simp)
    · rw [if_neg h2]
      have h3 : y < x := by omega
      refine srt_eq (by simp [Asc, h3]) (fun z => ?_)
      simp only [List.mem_cons, List.not_mem_nil, or_false]
      exact Or.comm
theorem next_val (l : List S52) (hl : l.length ≤ 1048576) {a : Int} (h0 : 0 ≤ a) (h1 : a ≤ (l.length : Int)) : impl_next.f l a = some (nxt l a) := by
  unfold impl_next.f nxt
  by_cases e : a = (l.length : Int)
  · rw [if_pos e, if_pos e]
  · rw [if_neg e, if_neg e, if_pos h0, if_pos (by omega), wrap_id (n := a + 1) (by omega) (by omega)]
    by_cases e12 : (rd_T52 l a).f0 = 12
    · rw [if_pos e12, if_pos e12]
    · rw [if_neg e12, if_neg e12]
      by_cases e11 : (rd_T52 l a).f0 = 11
      · rw [if_pos e11, if_pos e11]
      · rw [if_neg e11, if_neg e11]
        by_cases e10 : (rd_T52 l a).f0 = 10
        · rw [if_pos e10, if_pos e10]
          unfold slices_Sort_int_int.f slices_Compact_int_int.f
          rw [if_pos (by simp)]
          rfl
        · rw [if_neg e10, if_neg e10]
theorem prog_small {l : List S52} (h : progB l = true) : l.length ≤ 32 := by
  unfold progB at h
  rw [Bool.and_eq_true] at h
  simpa using h.1
theorem prog_ins {l : List S52} (h : progB l = true) {a : Int} (h0 : 0 ≤ a) (h1 : a < (l.length : Int)) : insOkB (rd_T52 l a).f0 (rd_T52 l a).f1 (rd_T52 l a).f2 (rd_T52 l a).f3 (l.length : Int) = true := by
  unfold progB at h
  rw [Bool.and_eq_true, List.all_eq_true] at h
  obtain ⟨n, rfl⟩ := Int.eq_ofNat_of_zero_le h0
  exact h.2 _ (List.mem_of_getElem? (rdP_at (by omega)))
theorem ins_target {op a b c s : Int} (h : insOkB op a b c s = true) (ho : op = 10 ∨ op = 11) : 0 ≤ b ∧ b ≤ s := by
  rcases ho with rfl | rfl <;> (simp [insOkB, inB] at h; omega)
theorem nxt_ok {l : List S52} (h : progB l = true) (x : Int) (h0 : 0 ≤ x) (h1 : x ≤ (l.length : Int)) : (∀ y ∈ nxt l x, 0 ≤ y ∧ y ≤ (l.length : Int)) ∧ (nxt l x).length ≤ 2 := by
  unfold nxt
  by_cases e : x = (l.length : Int)
  · rw [if_pos e]; simp
  · have hi := prog_ins h h0 (by omega)
    rw [if_neg e]
    by_cases e12 : (rd_T52 l x).f0 = 12
    · rw [if_pos e12]; simp
    · rw [if_neg e12]
      by_cases e11 : (rd_T52 l x).f0 = 11
      · rw [if_pos e11]; have := ins_target hi (.inr e11); simpa using this
      · rw [if_neg e11]
        by_cases e10 : (rd_T52 l x).f0 = 10
        · rw [if_pos e10]
          have ht := ins_target hi (.inl e10)
          refine ⟨fun y hy => ?_, Nat.le_trans (srt_len _) (by simp)⟩
          have := ((srt_spec _).2 y).1 hy
          simp only [List.mem_cons, List.not_mem_nil, or_false] at this
          rcases this with rfl | rfl
          · exact ht
          · omega
        · rw [if_neg e10]
          refine ⟨fun y hy => ?_, by simp⟩
          simp only [List.mem_cons, List.not_mem_nil, or_false] at hy
          subst hy
          omega
theorem nxt_exit (l : List S52) : nxt l (l.length : Int) = [] := by unfold nxt; rw [if_pos rfl]
theorem nxt_ne {l : List S52} {x : Int} (h1 : x < (l.length : Int)) : nxt l x ≠ [] := by
  unfold nxt
  rw [if_neg (by omega), srt_pair]
  repeat' split
  all_goals simp
theorem isNode_val (l : List S52) (a : Int) : impl_isNode.f l a = some (progB l && inB a 0 (l.length : Int)) := by
  unfold impl_isNode.f
  rw [progOk_val, Option.bind_some]
  cases progB l
  · rfl
  · rw [if_pos rfl, within_val]; rfl
theorem inB_iff {a lo hi : Int} : inB a lo hi = true ↔ lo ≤ a ∧ a ≤ hi := by unfold inB; simp
theorem inB_not {a lo hi : Int} : inB a lo hi = false ↔ ¬ (lo ≤ a ∧ a ≤ hi) := by rw [← inB_iff]; simp
end Go.Proofs.Ytbkgklkiennpbaa.HG
/- What is reached, as the program walks it. -/
set_option linter.unusedVariables false
set_option linter.unusedSimpArgs false
namespace Go.Proofs.Ytbkgklkiennpbaa.HG
open Go Go.RowKit Go.Proofs.YtbkgklkiennpbaaW.PrintWords Go.Proofs.YtbkgklkiennpbaaW.PrintLast Go.Proofs.Ytbkgklkiennpbaa.Aid

theorem reached_ev {l : List S52} (hp : progB l = true) (S : List Int) (w : Int) (hS : ∀ x ∈ S, 0 ≤ x ∧ x ≤ (l.length : Int)) (hSl : S.length ≤ 1000) : Ev (fun k => impl_reached.f k l S w) (rset (nxt l) w S l.length) := by
  have hs := prog_small hp
  have h := bfs_ev (fun k m q => impl_reached.l0 k l w m q) l.length (nxt l) w S (fun _ => True) (fun m => m = rset (nxt l) w S l.length) hS (nxt_ok hp)
    (fun m x q hm h0 h1 hsk => ⟨0, fun k _ => by
      have hl0 : 0 < (x :: q).length := by simp
      have hr : rd (x :: q) 0 = x := rfl
      simp only [impl_reached.l0]
      rw [if_pos (by omega), if_pos (by omega), if_pos (by omega), hr]
      simp only [Option.bind_some]
      rcases hsk with h | h
      · rw [if_pos h]; rfl
      · by_cases e : x = w
        · rw [if_pos e]; rfl
        · rw [if_neg e, if_pos h0, if_pos (by omega), if_pos h]; rfl⟩)
    (fun m x q hm h0 h1 hw hmx hq _ => .inl ⟨trivial, 0, fun k _ => by
      have hl0 : 0 < (x :: q).length := by simp
      have hr : rd (x :: q) 0 = x := rfl
      have hn2 := (nxt_ok hp x h0 h1).2
      have hd : (x :: q).drop (1 : Int).toNat = q := rfl
      simp only [impl_reached.l0]
      rw [if_pos (by omega), if_pos (by omega), if_pos (by omega), hr, hd]
      simp only [Option.bind_some]
      rw [if_neg hw, if_pos h0, if_pos (by omega), if_neg (by rw [hmx]; decide), next_val l (by omega) h0 h1, Option.bind_some, if_pos (by omega)]⟩)
    (fun m hm hR _ => ⟨m, rset_of hS (nxt_ok hp) hm hR, 0, fun k _ => by
      simp only [impl_reached.l0]
      rw [if_neg (by simp)]⟩)
  obtain ⟨r, rfl, h⟩ := h
  refine Ev.congr (fun k => ?_) h
  have hw : wrap64 ((l.length : Int) + 1) = ((l.length + 1 : Nat) : Int) := wrap_succ (N := l.length + 1) (by omega) (by omega)
  unfold impl_reached.f slices_Clone_int_int.f
  rw [hw, Int.toNat_natCast, if_pos (by omega), if_pos (by omega), if_pos (by omega)]
  rfl
end Go.Proofs.Ytbkgklkiennpbaa.HG
/- Whether the exit is reached, as the program tells it. -/
set_option linter.unusedVariables false
set_option linter.unusedSimpArgs false
namespace Go.Proofs.Ytbkgklkiennpbaa.HG
open Go Go.RowKit Go.Proofs.YtbkgklkiennpbaaW.PrintWords Go.Proofs.YtbkgklkiennpbaaW.PrintLast Go.Proofs.Ytbkgklkiennpbaa.Aid

noncomputable def exitB (l : List S52) (a : Int) : Bool := if (progB l && inB a 0 (l.length : Int)) = true then rdOf false (rset (nxt l) (-1) [a] l.length) (l.length : Int) else false
theorem exitIn_ev {l : List S52} (hp : progB l = true) {a : Int} (h0 : 0 ≤ a) (h1 : a ≤ (l.length : Int)) : Ev (fun k => impl_reachesExit.f k l a) (rdOf false (rset (nxt l) (-1) [a] l.length) (l.length : Int)) := by
  obtain ⟨K1, h1⟩ := reached_ev hp [a] (-1) (by simpa using ⟨h0, h1⟩) (by simp)
  have hl := rset_len (nxt l) (-1) [a] l.length
  refine ⟨K1, fun k hk => ?_⟩
  have e1 : impl_reached.f k l [a] (-1) = some (rset (nxt l) (-1) [a] l.length) := h1 k (by omega)
  show impl_reachesExit.f k l a = some _
  unfold impl_reachesExit.f
  rw [e1, Option.bind_some, if_pos (by omega), if_pos (by omega)]
end Go.Proofs.Ytbkgklkiennpbaa.HG
/- Whether the exit is reached, as the program tells it. -/
set_option linter.unusedVariables false
set_option linter.unusedSimpArgs false
namespace Go.Proofs.Ytbkgklkiennpbaa.HG
open Go Go.RowKit Go.Proofs.YtbkgklkiennpbaaW.PrintWords Go.Proofs.YtbkgklkiennpbaaW.PrintLast Go.Proofs.Ytbkgklkiennpbaa.Aid

theorem reachesExit_ev (l : List S52) (a : Int) : Ev (fun k => impl_ReachesExit.f k l a) (exitB l a) := by
  unfold exitB
  by_cases h : (progB l && inB a 0 (l.length : Int)) = true
  · have h' := h
    rw [Bool.and_eq_true, inB_iff] at h'
    obtain ⟨K1, h1⟩ := exitIn_ev h'.1 h'.2.1 h'.2.2
    refine ⟨K1, fun k hk => ?_⟩
    have e1 : impl_reachesExit.f k l a = some (rdOf false (rset (nxt l) (-1) [a] l.length) (l.length : Int)) := h1 k (by omega)
    show impl_ReachesExit.f k l a = some _
    unfold impl_ReachesExit.f
    rw [isNode_val, Option.bind_some, if_pos h, e1, Option.bind_some, if_pos h]
  · refine Ev.congr (fun k => ?_) (ev_some _)
    unfold impl_ReachesExit.f
    rw [isNode_val, Option.bind_some, if_neg h, if_neg h]
end Go.Proofs.Ytbkgklkiennpbaa.HG
/- Whether every way from a node to the exit passes another one, as the program tells it. -/
set_option linter.unusedVariables false
set_option linter.unusedSimpArgs false
namespace Go.Proofs.Ytbkgklkiennpbaa.HG
open Go Go.RowKit Go.Proofs.YtbkgklkiennpbaaW.PrintWords Go.Proofs.YtbkgklkiennpbaaW.PrintLast Go.Proofs.Ytbkgklkiennpbaa.Aid

noncomputable def aftB (l : List S52) (a b : Int) : Bool := rdOf false (rset (nxt l) (-1) [a] l.length) (l.length : Int) && !rdOf false (rset (nxt l) b [a] l.length) (l.length : Int)
theorem isAfter_ev {l : List S52} (hp : progB l = true) {a : Int} (b : Int) (h0 : 0 ≤ a) (h1 : a ≤ (l.length : Int)) : Ev (fun k => impl_isAfter.f k l a b) (aftB l a b) := by
  obtain ⟨K1, e1⟩ := exitIn_ev hp h0 h1
  obtain ⟨K2, e2⟩ := reached_ev hp [a] b (by simpa using ⟨h0, h1⟩) (by simp)
  have hl := rset_len (nxt l) b [a] l.length
  refine ⟨K1 + K2, fun k hk => ?_⟩
  have e1' : impl_reachesExit.f k l a = some (rdOf false (rset (nxt l) (-1) [a] l.length) (l.length : Int)) := e1 k (by omega)
  have e2' : impl_reached.f k l [a] b = some (rset (nxt l) b [a] l.length) := e2 k (by omega)
  show impl_isAfter.f k l a b = some _
  unfold impl_isAfter.f aftB
  rw [e1', Option.bind_some]
  cases rdOf false (rset (nxt l) (-1) [a] l.length) (l.length : Int)
  · rfl
  · rw [if_pos rfl, e2', Option.bind_some, if_pos (by omega), if_pos (by omega)]; rfl
end Go.Proofs.Ytbkgklkiennpbaa.HG
/- The reference's draws: each gives a number of its range, whatever the bytes. No condition. -/
set_option linter.unusedVariables false
set_option linter.unusedSimpArgs false
namespace Go.Proofs.Ytbkgklkiennpbaa.HG
open Go Go.RowKit Go.Proofs.YtbkgklkiennpbaaW.PrintWords Go.Proofs.YtbkgklkiennpbaaW.PrintLast Go.Proofs.Ytbkgklkiennpbaa.Aid

/-- A reader's state: its place lies in the code or behind it. -/
def Rok (b : List Int) (i : Int) : Prop := 0 ≤ i ∧ i ≤ 140737488355328
theorem byte_ok {b : List Int} (hb : b.length ≤ 140737488351232) {i h : Int} (hi : Rok b i) : ∃ x i' h', spec_l01Byte.f b i h = some (x, i', h') ∧ 0 ≤ x ∧ x ≤ 255 ∧ Rok b i' := by
  unfold spec_l01Byte.f
  obtain ⟨h0, h1⟩ := hi
  by_cases hlt : i < (b.length : Int)
  · rw [if_pos hlt, if_pos h0]
    refine ⟨_, _, _, rfl, ?_, ?_, ?_⟩
    · rw [and_255]; omega
    · rw [and_255]; omega
    · rw [wrap_id (by omega) (by omega)]
      exact ⟨by omega, by omega⟩
  · rw [if_neg hlt]
    refine ⟨_, _, _, rfl, ?_, ?_, h0, h1⟩
    · rw [and_255]; omega
    · rw [and_255]; omega
theorem tmod_below {x n : Int} (h0 : 0 ≤ x) (hn : 0 < n) : 0 ≤ x.tmod n ∧ x.tmod n < n := by
  rw [Int.tmod_eq_emod_of_nonneg h0]
  exact ⟨Int.emod_nonneg _ (by omega), Int.emod_lt_of_pos _ hn⟩
/-- A draw below n. -/
theorem below_ok {b : List Int} (hb : b.length ≤ 140737488351232) {i h : Int} (hi : Rok b i) (n : Int) : ∃ x i' h', spec_l01Below.f b i h n = some (x, i', h') ∧ 0 ≤ x ∧ (0 < n → x < n) ∧ (n ≤ 0 → x = 0) ∧ Rok b i' := by
  unfold spec_l01Below.f
  by_cases h0 : n ≤ 0
  · rw [if_pos h0]
    exact ⟨_, _, _, rfl, by omega, by omega, fun _ => rfl, hi⟩
  · rw [if_neg h0]
    by_cases h1 : n ≤ 256
    · rw [if_pos h1]
      obtain ⟨x, i1, g1, e, hx0, hx1, hi1⟩ := byte_ok (h := h) hb hi
      rw [e, Option.bind_some, if_neg (by omega)]
      have := tmod_below (x := x) (n := n) hx0 (by omega)
      exact ⟨_, _, _, rfl, this.1, fun _ => this.2, by omega, hi1⟩
    · rw [if_neg h1]
      obtain ⟨x, i1, g1, e, hx0, hx1, hi1⟩ := byte_ok (h := h) hb hi
      obtain ⟨y, i2, g2, e2, hy0, hy1, hi2⟩ := byte_ok (h := g1) hb hi1
      obtain ⟨z, i3, g3, e3, hz0, hz1, hi3⟩ := byte_ok (h := g2) hb hi2
      obtain ⟨u, i4, g4, e4, hu0, hu1, hi4⟩ := byte_ok (h := g3) hb hi3
      simp only [e, e2, e3, e4, Option.bind_some]
      rw [if_neg (by omega)]
      have hw : 0 ≤ wrap64 (wrap64 (wrap64 (wrap64 (x * 16777216) + wrap64 (y * 65536)) + wrap64 (z * 256)) + u) := by
        unfold wrap64; omega
      have := tmod_below (x := wrap64 (wrap64 (wrap64 (wrap64 (x * 16777216) + wrap64 (y * 65536)) + wrap64 (z * 256)) + u)) (n := n) hw (by omega)
      exact ⟨_, _, _, rfl, this.1, fun _ => this.2, by omega, hi4⟩
/-- A new reader. -/
theorem new_ok (b : List Int) : ∃ i h, Ev (fun k => spec_l01New.f k b) (b, i, h) ∧ Rok b i := by
  have key := loop_ev (fun k n (s : Int) => spec_l01New.l0 k b s (n : Int)) (min b.length 4000) (fun _ _ => True) (fun r : List Int × Int × Int => ∃ h, r = (b, 0, h))
    (fun n s hn _ => Or.inl ⟨Go.bits .and .i64 (wrap64 ((wrap64 ((wrap64 (s * 131)) + (wrap64 (rd b (n : Int))))) + 7)) 1073741823, trivial, 0, fun k _ => by
      simp only [spec_l01New.l0]
      rw [if_pos (by omega), if_pos (by omega), if_pos (by omega), wrap_succ (N := 4000) (by omega) (by omega)]⟩)
    (fun s _ => ⟨(b, 0, s), ⟨s, rfl⟩, 0, fun k _ => by
      simp only [spec_l01New.l0]
      by_cases h : b.length ≤ 4000
      · rw [if_neg (by omega)]
      · rw [if_pos (by omega), if_neg (by omega)]⟩) 0 (wrap64 (98561 + (b.length : Int))) (Nat.zero_le _) trivial
  obtain ⟨r, ⟨h, rfl⟩, hev⟩ := key
  exact ⟨0, h, hev, by unfold Rok; omega⟩
end Go.Proofs.Ytbkgklkiennpbaa.HG
/- The twelve places that the reference draws. -/
set_option linter.unusedVariables false
set_option linter.unusedSimpArgs false
namespace Go.Proofs.Ytbkgklkiennpbaa.HG
open Go Go.RowKit Go.Proofs.YtbkgklkiennpbaaW.PrintWords Go.Proofs.YtbkgklkiennpbaaW.PrintLast Go.Proofs.Ytbkgklkiennpbaa.Aid

theorem rd_in {l : List Int} {n : Int} (h0 : 0 ≤ n) (h1 : n < (l.length : Int)) : rd l n ∈ l := by
  unfold rd
  have hl : n.toNat < l.length := by omega
  rw [List.getD_eq_getElem?_getD, List.getElem?_eq_getElem hl]
  exact List.getElem_mem hl
theorem places_ok {b : List Int} (hb : b.length ≤ 140737488351232) : ∃ l : List Int, Ev (fun k => spec_DrawPlaces.f k b) l ∧ l.length = 12 ∧ ∀ x ∈ l, 0 ≤ x ∧ x ≤ 9999 := by
  obtain ⟨i, h, ⟨K0, h0⟩, hi⟩ := new_ok b
  obtain ⟨r, ⟨hr, hx⟩, K1, h1⟩ := loop_ev (fun k n (s : List Int × Int × Int) => spec_DrawPlaces.l0 k s.1 (n : Int) b s.2.1 s.2.2) 12
    (fun n s => s.1.length = n ∧ (∀ x ∈ s.1, 0 ≤ x ∧ x ≤ 9999) ∧ Rok b s.2.1) (fun r => r.length = 12 ∧ ∀ x ∈ r, 0 ≤ x ∧ x ≤ 9999)
    (fun n s hn hI => by
      obtain ⟨x, i', h', e, hx0, hx1, _, hi'⟩ := below_ok (h := s.2.2) hb hI.2.2 10000
      have hx1 := hx1 (by omega)
      refine Or.inl ⟨(s.1 ++ [x], i', h'), ⟨by simp [hI.1], fun y hy => ?_, hi'⟩, 0, fun k _ => ?_⟩
      · rcases List.mem_append.1 hy with hy | hy
        · exact hI.2.1 y hy
        · simp only [List.mem_cons, List.not_mem_nil, or_false] at hy
          subst hy; exact ⟨hx0, by omega⟩
      · simp only [spec_DrawPlaces.l0]
        rw [if_pos (by omega), e, Option.bind_some, if_pos (by omega), wrap_succ hn (by omega)])
    (fun s hI => ⟨s.1, ⟨hI.1, hI.2.1⟩, 0, fun k _ => by
      simp only [spec_DrawPlaces.l0]
      rw [if_neg (by omega)]⟩) 0 ([], i, h) (Nat.zero_le _) ⟨rfl, (fun x hx => by cases hx), hi⟩
  refine ⟨r, ⟨K0 + K1, fun k hk => ?_⟩, hr, hx⟩
  have e0 : spec_l01New.f k b = some (b, i, h) := h0 k (by omega)
  have e1 : spec_DrawPlaces.l0 k [] 0 b i h = some r := h1 k (by omega)
  show spec_DrawPlaces.f k b = some r
  unfold spec_DrawPlaces.f
  rw [e0, Option.bind_some]
  exact e1
end Go.Proofs.Ytbkgklkiennpbaa.HG
/- The programs with jumps to anywhere that the reference draws: valid, of at most eight instructions. -/
set_option linter.unusedVariables false
set_option linter.unusedSimpArgs false
namespace Go.Proofs.Ytbkgklkiennpbaa.HG
open Go Go.RowKit Go.Proofs.YtbkgklkiennpbaaW.PrintWords Go.Proofs.YtbkgklkiennpbaaW.PrintLast Go.Proofs.Ytbkgklkiennpbaa.Aid

theorem plain_ok {b : List Int} (hb : b.length ≤ 140737488351232) {i h : Int} (hi : Rok b i) :
    ∃ op x y z i' h', spec_l04Plain.f b i h = some (op, x, y, z, i', h') ∧ Rok b i' ∧ (1 ≤ op ∧ op ≤ 9 ∧ ∀ s, 0 ≤ s → s ≤ 32 → insOkB op x y z s = true) := by
  unfold spec_l04Plain.f
  obtain ⟨n, i1, g1, e1, hn0, hn1, _, hi1⟩ := below_ok (h := h) hb hi 9
  obtain ⟨m, i2, g2, e2, hm0, hm1, _, hi2⟩ := below_ok (h := g1) hb hi1 4
  have hn1 := hn1 (by omega)
  have hm1 := hm1 (by omega)
  simp only [e1, e2, Option.bind_some]
  rw [wrap_id (n := 1 + n) (by omega) (by omega)]
  by_cases c1 : 1 + n = 1
  · rw [if_pos c1]
    obtain ⟨u, i3, g3, e3, hu0, hu1, _, hi3⟩ := below_ok (h := g2) hb hi2 6
    have hu1 := hu1 (by omega)
    rw [e3, Option.bind_some, c1]
    refine ⟨_, _, _, _, _, _, rfl, hi3, by omega, by omega, fun s h0 h1 => ?_⟩
    simp [insOkB, inB]; omega
  · rw [if_neg c1]
    by_cases c2 : 1 + n = 8
    · rw [if_pos c2, c2]
      refine ⟨_, _, _, _, _, _, rfl, hi2, by omega, by omega, fun s h0 h1 => ?_⟩
      simp [insOkB, inB]; omega
    · rw [if_neg c2]
      obtain ⟨u, i3, g3, e3, hu0, hu1, _, hi3⟩ := below_ok (h := g2) hb hi2 4
      have hu1 := hu1 (by omega)
      rw [e3]
      by_cases c3 : 1 + n = 2
      · rw [if_pos c3, c3]
        refine ⟨_, _, _, _, _, _, rfl, hi3, by omega, by omega, fun s h0 h1 => ?_⟩
        simp [insOkB, inB]; omega
      · rw [if_neg c3, Option.bind_some]
        obtain ⟨v, i4, g4, e4, hv0, hv1, _, hi4⟩ := below_ok (h := g3) hb hi3 4
        have hv1 := hv1 (by omega)
        rw [e4]
        refine ⟨_, _, _, _, _, _, rfl, hi4, by omega, by omega, fun s h0 h1 => ?_⟩
        unfold insOkB
        rw [if_neg (by omega), if_neg (by omega), if_neg (by omega), if_neg (by omega), if_neg (by omega), if_neg (by omega), if_pos (by omega)]
        simp [inB]; omega
theorem wild_ok {b : List Int} (hb : b.length ≤ 140737488351232) : ∃ p : List S52, Ev (fun k => spec_DrawWild.f k b) p ∧ progB p = true ∧ p.length ≤ 8 := by
  obtain ⟨i, h, ⟨K0, h0⟩, hi⟩ := new_ok b
  obtain ⟨N, i1, g1, e1, hN0, hN1, _, hi1⟩ := below_ok (h := h) hb hi 9
  have hN1 := hN1 (by omega)
  have key : ∀ d m (p : List S52) i h, N.toNat - m = d → m ≤ N.toNat → p.length = m → (∀ x ∈ p, insOkB x.f0 x.f1 x.f2 x.f3 N = true) → Rok b i →
      ∃ r : List S52 × Int × Int, (r.1.length = N.toNat ∧ ∀ x ∈ r.1, insOkB x.f0 x.f1 x.f2 x.f3 N = true) ∧ Ev (fun k => spec_l07Wild.l0 k p N (m : Int) b i h) r := by
    intro d
    induction d with
    | zero =>
      intro m p i h hd hm hp hx hi
      refine ⟨(p, i, h), ⟨by simp only; omega, hx⟩, 1, fun k hk => ?_⟩
      obtain ⟨k, rfl⟩ : ∃ j, k = j + 1 := ⟨k - 1, by omega⟩
      simp only [spec_l07Wild.l0]
      rw [if_neg (by omega)]
    | succ d ih =>
      intro m p i h hd hm hp hx hi
      obtain ⟨t, i2, g2, e2, ht0, ht1, _, hi2⟩ := below_ok (h := h) hb hi 6
      have hw : wrap64 ((m : Int) + 1) = ((m + 1 : Nat) : Int) := wrap_succ (N := 9) (by omega) (by omega)
      have hwN : wrap64 (N + 1) = N + 1 := wrap_id (by omega) (by omega)
      have next : ∀ (x : S52) i' h', insOkB x.f0 x.f1 x.f2 x.f3 N = true → Rok b i' → ∃ r : List S52 × Int × Int, (r.1.length = N.toNat ∧ ∀ x ∈ r.1, insOkB x.f0 x.f1 x.f2 x.f3 N = true) ∧ Ev (fun k => spec_l07Wild.l0 k (p ++ [x]) N ((m + 1 : Nat) : Int) b i' h') r := by
        intro x i' h' hok hi'
        refine ih (m + 1) (p ++ [x]) i' h' (by omega) (by omega) (by simp [hp]) (fun y hy => ?_) hi'
        rcases List.mem_append.1 hy with hy | hy
        · exact hx y hy
        · rw [List.mem_singleton.1 hy]; exact hok
      have via : ∀ r, (∃ K, ∀ k, K ≤ k → spec_l07Wild.j1 k p N (m : Int) t ((t == 0) || (t == 1)) b i2 g2 = some r) → Ev (fun k => spec_l07Wild.l0 k p N (m : Int) b i h) r := by
        intro r ⟨K, hK⟩
        refine ⟨K + 1, fun k hk => ?_⟩
        obtain ⟨k, rfl⟩ : ∃ j, k = j + 1 := ⟨k - 1, by omega⟩
        simp only [spec_l07Wild.l0, e2, Option.bind_some]
        rw [if_pos (by omega)]
        have := hK k (by omega)
        by_cases c0 : t = 0
        · have hz : (t == 0) = true := by simpa using c0
          rw [hz, Bool.true_or] at this
          rw [if_pos c0]; rw [← hz] at this; exact this
        · have hz : (t == 0) = false := by simpa using c0
          rw [hz, Bool.false_or] at this
          rw [if_neg c0]; exact this
      by_cases c01 : t = 0 ∨ t = 1
      · obtain ⟨u, i3, g3, e3, hu0, hu1, _, hi3⟩ := below_ok (h := g2) hb hi2 4
        obtain ⟨v, i4, g4, e4, hv0, hv1, _, hi4⟩ := below_ok (h := g3) hb hi3 (N + 1)
        have hu1 := hu1 (by omega)
        have hv1 := hv1 (by omega)
        obtain ⟨r, hr, K, hK⟩ := next ⟨10, u, v, 0⟩ i4 g4 (by simp [insOkB, inB]; omega) hi4
        refine ⟨r, hr, via r ⟨K + 1, fun k hk => ?_⟩⟩
        obtain ⟨k, rfl⟩ : ∃ j, k = j + 1 := ⟨k - 1, by omega⟩
        have hc : ((t == 0) || (t == 1)) = true := by simpa using c01
        simp only [spec_l07Wild.j1, hc, if_true, e3, hwN, e4, Option.bind_some]
        rw [if_pos (by omega), hw]
        exact hK k (by omega)
      · have hc : ((t == 0) || (t == 1)) = false := by
          cases h : ((t == 0) || (t == 1))
          · rfl
          · exact absurd (by simpa using h) c01
        by_cases c2 : t = 2
        · obtain ⟨v, i4, g4, e4, hv0, hv1, _, hi4⟩ := below_ok (h := g2) hb hi2 (N + 1)
          have hv1 := hv1 (by omega)
          obtain ⟨r, hr, K, hK⟩ := next ⟨11, 0, v, 0⟩ i4 g4 (by simp [insOkB, inB]; omega) hi4
          refine ⟨r, hr, via r ⟨K + 1, fun k hk => ?_⟩⟩
          obtain ⟨k, rfl⟩ : ∃ j, k = j + 1 := ⟨k - 1, by omega⟩
          simp only [spec_l07Wild.j1, hc, hwN, e4, Option.bind_some]
          rw [if_neg (by decide), if_pos c2, if_pos (by omega), hw]
          exact hK k (by omega)
        · by_cases c3 : t = 3
          · obtain ⟨r, hr, K, hK⟩ := next ⟨12, 0, 0, 0⟩ i2 g2 (by simp [insOkB, inB]; omega) hi2
            refine ⟨r, hr, via r ⟨K + 1, fun k hk => ?_⟩⟩
            obtain ⟨k, rfl⟩ : ∃ j, k = j + 1 := ⟨k - 1, by omega⟩
            simp only [spec_l07Wild.j1, hc]
            rw [if_neg (by decide), if_neg c2, if_pos c3, if_pos (by omega), hw]
            exact hK k (by omega)
          · obtain ⟨op, x, y, z, i4, g4, e4, hi4, _, _, hok⟩ := plain_ok (h := g2) hb hi2
            obtain ⟨r, hr, K, hK⟩ := next ⟨op, x, y, z⟩ i4 g4 (hok N hN0 (by omega)) hi4
            refine ⟨r, hr, via r ⟨K + 1, fun k hk => ?_⟩⟩
            obtain ⟨k, rfl⟩ : ∃ j, k = j + 1 := ⟨k - 1, by omega⟩
            simp only [spec_l07Wild.j1, hc, e4, Option.bind_some]
            rw [if_neg (by decide), if_neg c2, if_neg c3, if_pos (by omega), hw]
            exact hK k (by omega)
  obtain ⟨r, ⟨hr, hx⟩, K1, h1⟩ := key N.toNat 0 [] i1 g1 (by omega) (by omega) rfl (fun x hx => by cases hx) hi1
  refine ⟨r.1, ⟨K0 + K1, fun k hk => ?_⟩, ?_, by omega⟩
  · have e0 : spec_l01New.f k b = some (b, i, h) := h0 k (by omega)
    have e3 : spec_l07Wild.l0 k [] N 0 b i1 g1 = some r := h1 k (by omega)
    show spec_DrawWild.f k b = some r.1
    unfold spec_DrawWild.f spec_l07Wild.f
    simp only [e0, e1, e3, Option.bind_some]
  · unfold progB
    rw [Bool.and_eq_true, List.all_eq_true]
    refine ⟨by simp; omega, fun x hxm => ?_⟩
    unfold okIns
    have : ((r.1.length : Nat) : Int) = N := by omega
    rw [this]
    exact hx x hxm
end Go.Proofs.Ytbkgklkiennpbaa.HG
/- Whether a number is in a row, as the laws look. -/
set_option linter.unusedVariables false
set_option linter.unusedSimpArgs false
namespace Go.Proofs.Ytbkgklkiennpbaa.HG
open Go Go.RowKit Go.Proofs.YtbkgklkiennpbaaW.PrintWords Go.Proofs.YtbkgklkiennpbaaW.PrintLast Go.Proofs.Ytbkgklkiennpbaa.Aid

theorem has_ev (l : List Int) (hl : l.length ≤ 1048576) (x : Int) : Ev (fun k => laws_has.f k l x) (decide (x ∈ l)) := by
  have h := loop_to (fun k n (_ : Unit) => laws_has.l0 k l x (n : Int)) l.length (fun n _ => ∀ j, j < n → l[j]? ≠ some x) (decide (x ∈ l))
    (fun n s hn hI => by
      by_cases e : rd l (n : Int) = x
      · refine Or.inr ⟨0, fun k _ => ?_⟩
        simp only [laws_has.l0]
        rw [if_pos (by omega), if_pos (by omega), if_pos e]
        have : x ∈ l := List.mem_of_getElem? (i := n) (by rw [rd_at hn, e])
        simp [this]
      · refine Or.inl ⟨(), fun j hj => ?_, 0, fun k _ => ?_⟩
        · by_cases h : j = n
          · subst h; rw [rd_at hn]; simpa using e
          · exact hI j (by omega)
        · simp only [laws_has.l0]
          rw [if_pos (by omega), if_pos (by omega), if_neg e, wrap_succ hn (by omega)])
    (fun s hI => ⟨0, fun k _ => by
      simp only [laws_has.l0]
      rw [if_neg (by omega)]
      have : ¬ x ∈ l := by
        intro hx
        obtain ⟨j, hj, e⟩ := List.mem_iff_getElem.1 hx
        exact hI j hj (by rw [List.getElem?_eq_getElem hj, e])
      simp [this]⟩) 0 () (Nat.zero_le _) (fun j hj => absurd hj (Nat.not_lt_zero _))
  exact Ev.congr (fun k => rfl) h
end Go.Proofs.Ytbkgklkiennpbaa.HG
