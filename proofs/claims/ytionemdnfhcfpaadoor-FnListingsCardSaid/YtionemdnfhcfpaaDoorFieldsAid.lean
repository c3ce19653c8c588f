/- Fields of a line of printable bytes: what they are, and that words joined by spaces have these words as fields. No condition. -/
import Derived.Lib.Fields
import Derived.Lib.Join
import Derived.WalkKit
set_option linter.unusedVariables false
namespace Go.Proofs.YtionemdnfhcfpaaDoor.Aid
open Go

/-- A byte that is printed: a space or a letter. -/
def okC (b : UInt8) : Bool := decide (32 ≤ b.toNat ∧ b.toNat ≤ 126)
theorem isSp_ok {b : UInt8} (h : okC b = true) : Lib.isSp b = decide (b.toNat = 32) := by
  unfold okC at h
  have h := of_decide_eq_true h
  unfold Lib.isSp
  by_cases e : b.toNat = 32
  · have : b = 32 := UInt8.toNat_inj.1 e
    subst this; rfl
  · have hn : ∀ c : UInt8, (c.toNat < 32 ∨ c.toNat = 32) → (b == c) = false := by
      intro c hc
      rw [beq_eq_false_iff_ne]
      rintro rfl
      omega
    rw [hn 9 (by decide), hn 10 (by decide), hn 11 (by decide), hn 12 (by decide), hn 13 (by decide), hn 32 (by decide)]
    simp [e]
theorem ascii_ok {l : List UInt8} (h : l.all okC = true) : ∀ (j : Nat) b, l[j]? = some b → b.toNat < 128 := by
  intro j b hb
  have := List.all_eq_true.1 h b (List.mem_of_getElem? hb)
  unfold okC at this
  have := of_decide_eq_true this
  omega
/-- A word: a byte at least, none of them white space. -/
def wordB (w : List UInt8) : Prop := w ≠ [] ∧ ∀ b ∈ w, Lib.isSp b = false
theorem fieldsGo_word : ∀ (w cur rest : List UInt8), (∀ b ∈ w, Lib.isSp b = false) → Lib.fieldsGo cur (w ++ rest) = Lib.fieldsGo (cur ++ w) rest
  | [], cur, rest, _ => by simp
  | b :: w, cur, rest, h => by
    rw [List.cons_append, Lib.fieldsGo_more _ _ _ (h b List.mem_cons_self), fieldsGo_word w _ _ (fun c hc => h c (List.mem_cons_of_mem _ hc)), List.append_assoc]
    rfl
theorem isSp_32 : Lib.isSp 32 = true := rfl
theorem fields_trail : ∀ (ws : List (List UInt8)), (∀ w ∈ ws, wordB w) → Lib.fields ((ws.map (· ++ [32])).flatten) = ws
  | [], _ => rfl
  | w :: ws, h => by
    have hw := h w List.mem_cons_self
    have ih := fields_trail ws (fun x hx => h x (List.mem_cons_of_mem _ hx))
    unfold Lib.fields at ih ⊢
    rw [List.map_cons, List.flatten_cons, List.append_assoc, fieldsGo_word w [] _ hw.2, List.nil_append, List.singleton_append, Lib.fieldsGo_end _ _ _ isSp_32 hw.1, ih]
theorem fieldsGo_tail : ∀ (ws : List (List UInt8)) (cur : List UInt8), cur ≠ [] → (∀ w ∈ ws, wordB w) → Lib.fieldsGo cur (Lib.joinTail [32] ws) = cur :: ws
  | [], cur, hc, _ => by
    have : Lib.joinTail [32] [] = [] := rfl
    rw [this]
    unfold Lib.fieldsGo
    rw [if_neg (by simpa using hc)]
  | w :: ws, cur, hc, h => by
    have hw := h w List.mem_cons_self
    have e : Lib.joinTail [32] (w :: ws) = 32 :: (w ++ Lib.joinTail [32] ws) := by simp [Lib.joinTail]
    rw [e, Lib.fieldsGo_end _ _ _ isSp_32 hc, fieldsGo_word w [] _ hw.2, List.nil_append, fieldsGo_tail ws w hw.1 (fun x hx => h x (List.mem_cons_of_mem _ hx))]
theorem fields_join {ws : List (List UInt8)} (h : ∀ w ∈ ws, wordB w) : Lib.fields (Lib.join ws [32]) = ws := by
  cases ws with
  | nil => rfl
  | cons w ws =>
    have hw := h w List.mem_cons_self
    rw [Lib.join_cons]
    unfold Lib.fields
    rw [fieldsGo_word w [] _ hw.2, List.nil_append]
    exact fieldsGo_tail ws w hw.1 (fun x hx => h x (List.mem_cons_of_mem _ hx))
theorem join_inj {a b : List (List UInt8)} (ha : ∀ w ∈ a, wordB w) (hb : ∀ w ∈ b, wordB w) (h : Lib.join a [32] = Lib.join b [32]) : a = b := by
  rw [← fields_join ha, h, fields_join hb]
theorem fieldsGo_words : ∀ (l cur : List UInt8), (∀ b ∈ cur, Lib.isSp b = false) → ∀ w ∈ Lib.fieldsGo cur l, wordB w ∧ ∀ b ∈ w, b ∈ cur ∨ b ∈ l
  | [], cur, hc, w, hw => by
    unfold Lib.fieldsGo at hw
    split at hw
    · cases hw
    · rename_i hne
      rw [List.mem_singleton.1 hw]
      exact ⟨⟨by simpa using hne, hc⟩, fun b hb => .inl hb⟩
  | c :: l, cur, hc, w, hw => by
    cases hs : Lib.isSp c with
    | true =>
      by_cases he : cur = []
      · subst he
        rw [Lib.fieldsGo_sp _ _ hs] at hw
        obtain ⟨h1, h2⟩ := fieldsGo_words l [] (fun b hb => by cases hb) w hw
        exact ⟨h1, fun b hb => (h2 b hb).imp id fun h => List.mem_cons_of_mem _ h⟩
      · rw [Lib.fieldsGo_end _ _ _ hs he] at hw
        rcases List.mem_cons.1 hw with rfl | hw
        · exact ⟨⟨he, hc⟩, fun b hb => .inl hb⟩
        · obtain ⟨h1, h2⟩ := fieldsGo_words l [] (fun b hb => by cases hb) w hw
          refine ⟨h1, fun b hb => ?_⟩
          rcases h2 b hb with h | h
          · cases h
          · exact .inr (List.mem_cons_of_mem _ h)
    | false =>
      rw [Lib.fieldsGo_more _ _ _ hs] at hw
      obtain ⟨h1, h2⟩ := fieldsGo_words l (cur ++ [c]) (fun b hb => by
        rcases List.mem_append.1 hb with h | h
        · exact hc b h
        · rw [List.mem_singleton.1 h]; exact hs) w hw
      refine ⟨h1, fun b hb => ?_⟩
      rcases h2 b hb with h | h
      · rcases List.mem_append.1 h with h | h
        · exact .inl h
        · exact .inr (by rw [List.mem_singleton.1 h]; exact List.mem_cons_self)
      · exact .inr (List.mem_cons_of_mem _ h)
theorem fields_words {s : List UInt8} {w : List UInt8} (hw : w ∈ Lib.fields s) : wordB w ∧ ∀ b ∈ w, b ∈ s := by
  obtain ⟨h1, h2⟩ := fieldsGo_words s [] (fun b hb => by cases hb) w hw
  refine ⟨h1, fun b hb => ?_⟩
  rcases h2 b hb with h | h
  · cases h
  · exact h
theorem fieldsGo_bytes : ∀ (l cur : List UInt8), ((Lib.fieldsGo cur l).map (·.length)).sum ≤ cur.length + l.length
  | [], cur => by
    unfold Lib.fieldsGo
    split <;> simp
  | c :: l, cur => by
    cases hs : Lib.isSp c with
    | true =>
      have ih := fieldsGo_bytes l []
      by_cases he : cur = []
      · subst he
        rw [Lib.fieldsGo_sp _ _ hs]
        simp at ih ⊢; omega
      · rw [Lib.fieldsGo_end _ _ _ hs he]
        simp at ih ⊢; omega
    | false =>
      have ih := fieldsGo_bytes l (cur ++ [c])
      rw [Lib.fieldsGo_more _ _ _ hs]
      simp at ih ⊢; omega
theorem cntF_le : ∀ (l : List UInt8) (ws : Bool), Lib.cntF ws l ≤ l.length
  | [], ws => by simp [Lib.cntF]
  | b :: l, ws => by
    have := cntF_le l (Lib.isSp b)
    unfold Lib.cntF
    split <;> simp <;> omega
theorem fields_count (s : List UInt8) : (Lib.fields s).length ≤ s.length := by
  rw [Lib.fields_length]
  exact cntF_le _ _
/-- The fields of a line, as the document has them: none of a line that is too long, bears another byte, or has too many. -/
def splitB (s : List UInt8) : List (List UInt8) × Bool :=
  if s.length ≤ 600 ∧ s.all okC = true then (if (Lib.fields s).length ≤ 24 then (Lib.fields s, true) else ([], false)) else ([], false)
end Go.Proofs.YtionemdnfhcfpaaDoor.Aid
