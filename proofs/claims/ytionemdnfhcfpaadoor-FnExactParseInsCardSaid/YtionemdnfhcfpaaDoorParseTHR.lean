/- The instruction that a line's text gives, as the program and as the reference read it. No condition but a text that memory holds. -/
import Derived.Test.YtionemdnfhcfpaaDoorInsIHR
import Derived.Test.YtionemdnfhcfpaaDoorUintTHR
import Derived.Test.YtionemdnfhcfpaaDoorHR6
import Derived.Test.YtionemdnfhcfpaaDoorHR10
set_option linter.unusedVariables false
set_option linter.unusedSimpArgs false
namespace Go.Proofs.YtionemdnfhcfpaaDoor.HR
open Go Go.RowKit Go.Proofs.YtionemdnfhcfpaaDoorW.PrintWords Go.Proofs.YtionemdnfhcfpaaDoorW.PrintLast Go.Proofs.YtionemdnfhcfpaaDoor.Aid

/-- The words of an instruction's text. -/
def wordsT (op : Int) (l : List Int) : Nat → List (List UInt8)
  | 0 => [(nameT op).data.toList]
  | n + 1 => wordsT op l n ++ (if flB op n = true then [Lib.itoa (rd l (n : Int))] else [])
theorem words_cons (op : Int) (l : List Int) : ∀ n, ∃ r, wordsT op l n = (nameT op).data.toList :: r
  | 0 => ⟨[], rfl⟩
  | n + 1 => by
    obtain ⟨r, h⟩ := words_cons op l n
    exact ⟨_, by show wordsT op l n ++ _ = _; rw [h, List.cons_append]⟩
theorem joinTail_snoc (sep : List UInt8) (a : List (List UInt8)) (y : List UInt8) : Lib.joinTail sep (a ++ [y]) = Lib.joinTail sep a ++ (sep ++ y) := by simp [Lib.joinTail]
theorem part_join (op : Int) (l : List Int) : ∀ n, partT op l n = Lib.join (wordsT op l n) [32]
  | 0 => (Lib.join_one _ _).symm
  | n + 1 => by
    have ih := part_join op l n
    obtain ⟨r, hr⟩ := words_cons op l n
    show partT op l n ++ _ = Lib.join (wordsT op l n ++ _) [32]
    rw [ih, hr]
    cases flB op n with
    | true => rw [if_pos rfl, if_pos rfl, List.cons_append, Lib.join_cons, Lib.join_cons, joinTail_snoc, List.append_assoc]; rfl
    | false => rw [if_neg (by decide), if_neg (by decide), List.append_nil, List.append_nil]
theorem itoa_byte {n : Int} {b : UInt8} (h : b ∈ Lib.itoa n) : b.toNat = 45 ∨ (48 ≤ b.toNat ∧ b.toNat ≤ 57) := by
  unfold Lib.itoa at h
  split at h
  · rcases List.mem_cons.1 h with rfl | h
    · left; rfl
    · right; exact digits_mem h
  · right; exact digits_mem h
theorem okC_of {b : UInt8} (h : 33 ≤ b.toNat ∧ b.toNat ≤ 126) : okC b = true ∧ Lib.isSp b = false := by
  have h1 : okC b = true := by unfold okC; exact decide_eq_true ⟨by omega, by omega⟩
  exact ⟨h1, by rw [isSp_ok h1]; exact decide_eq_false (by omega)⟩
theorem name_bytes {op : Int} (h0 : 0 ≤ op) (h1 : op ≤ 16) : (nameT op).data.toList ≠ [] ∧ ∀ b ∈ (nameT op).data.toList, 33 ≤ b.toNat ∧ b.toNat ≤ 126 := by
  rcases op_cases h0 h1 with rfl | rfl | rfl | rfl | rfl | rfl | rfl | rfl | rfl | rfl | rfl | rfl | rfl | rfl | rfl | rfl | rfl <;> decide +kernel
theorem words_bytes {op : Int} (h0 : 0 ≤ op) (h1 : op ≤ 16) (l : List Int) : ∀ n, ∀ w ∈ wordsT op l n, w ≠ [] ∧ ∀ b ∈ w, 33 ≤ b.toNat ∧ b.toNat ≤ 126
  | 0, w, hw => by
    rw [List.mem_singleton.1 hw]
    exact name_bytes h0 h1
  | n + 1, w, hw => by
    rcases List.mem_append.1 hw with hw | hw
    · exact words_bytes h0 h1 l n w hw
    · split at hw
      · rw [List.mem_singleton.1 hw]
        refine ⟨itoa_ne _, fun b hb => ?_⟩
        have := itoa_byte hb
        omega
      · cases hw
theorem words_wordB {op : Int} (h0 : 0 ≤ op) (h1 : op ≤ 16) (l : List Int) (n : Nat) : ∀ w ∈ wordsT op l n, wordB w := fun w hw =>
  ⟨(words_bytes h0 h1 l n w hw).1, fun b hb => (okC_of ((words_bytes h0 h1 l n w hw).2 b hb)).2⟩
/-- The fields as the reference reads them: it stops at the first that is not there or is no number. -/
def runS (op : Int) (W : List (List UInt8)) : Nat → Nat → List Int → Nat → Option (List Int)
  | 0, _, l, x => if x = W.length ∧ insOkB op (rd l 0) (rd l 1) (rd l 2) 32 = true then some l else none
  | d + 1, n, l, x => if flB op n = true then (if x < W.length then (if (puB (W.getD x [])).2 = true then runS op W d (n + 1) (l.set n (puB (W.getD x [])).1) (x + 1) else none) else none) else runS op W d (n + 1) l x
/-- The fields as the program reads them: it takes what is there. -/
def runI (op : Int) (W : List (List UInt8)) : Nat → Nat → List Int → Nat → List Int
  | 0, _, l, _ => l
  | d + 1, n, l, x => if flB op n = true ∧ x < W.length then runI op W d (n + 1) (l.set n (puB (W.getD x [])).1) (x + 1) else runI op W d (n + 1) l x
theorem rd_set {l : List Int} {i j : Nat} {v : Int} : rd (l.set i v) (j : Int) = if i = j ∧ i < l.length then v else rd l (j : Int) := by
  unfold rd
  rw [List.getD_eq_getElem?_getD, List.getD_eq_getElem?_getD, Int.toNat_natCast, List.getElem?_set]
  by_cases h : i = j
  · subst h
    by_cases h2 : i < l.length
    · rw [if_pos rfl, if_pos h2, if_pos ⟨rfl, h2⟩]; rfl
    · rw [if_pos rfl, if_neg h2, if_neg (fun x => h2 x.2), List.getElem?_eq_none (by omega)]
  · rw [if_neg h, if_neg (fun x => h x.1)]
theorem runI_len (op : Int) (W : List (List UInt8)) : ∀ d n l x, (runI op W d n l x).length = l.length
  | 0, n, l, x => rfl
  | d + 1, n, l, x => by
    unfold runI
    split
    · rw [runI_len op W d]; simp
    · exact runI_len op W d _ _ _
theorem runI_keep (op : Int) (W : List (List UInt8)) : ∀ d n l x (j : Nat), j < n → rd (runI op W d n l x) (j : Int) = rd l (j : Int)
  | 0, n, l, x, j, hj => rfl
  | d + 1, n, l, x, j, hj => by
    unfold runI
    split
    · rw [runI_keep op W d _ _ _ j (by omega), rd_set, if_neg (fun h => by omega)]
    · exact runI_keep op W d _ _ _ j (by omega)
theorem words_congr (op : Int) {l l' : List Int} : ∀ n, (∀ j : Nat, j < n → rd l (j : Int) = rd l' (j : Int)) → wordsT op l n = wordsT op l' n
  | 0, _ => rfl
  | n + 1, h => by
    show wordsT op l n ++ _ = wordsT op l' n ++ _
    rw [words_congr op n (fun j hj => h j (by omega)), h n (by omega)]
theorem words_pre (op : Int) (l : List Int) (n : Nat) : ∀ d, ∃ r, wordsT op l (n + d) = wordsT op l n ++ r
  | 0 => ⟨[], by simp⟩
  | d + 1 => by
    obtain ⟨r, h⟩ := words_pre op l n d
    exact ⟨_, by show wordsT op l (n + d) ++ _ = _; rw [h, List.append_assoc]⟩
theorem uint_right {s : List UInt8} (h : (puB s).2 = true) : s = Lib.itoa (puB s).1 ∧ 0 ≤ (puB s).1 ∧ (puB s).1 ≤ 1000000000 := by
  rcases puB_cases s with ⟨n, h0, h1, e, hp⟩ | ⟨hp, _⟩
  · rw [hp]; exact ⟨e, h0, h1⟩
  · rw [hp] at h; cases h
theorem uint_wrong {s : List UInt8} (h : ¬ (puB s).2 = true) : (puB s).1 = 0 ∧ s ≠ Lib.itoa 0 := by
  rcases puB_cases s with ⟨n, h0, h1, e, hp⟩ | ⟨hp, hn⟩
  · rw [hp] at h; exact absurd rfl h
  · rw [hp]; exact ⟨rfl, hn 0 (by decide) (by decide)⟩
theorem getD_some {W : List (List UInt8)} {x : Nat} (h : x < W.length) : W[x]? = some (W.getD x []) := by
  rw [List.getD_eq_getElem?_getD, List.getElem?_eq_getElem h]; rfl
/-- Both read alike: where the reference gives an instruction the program's has these fields, and its text is the line's; where it gives none the program's text is another, or none. -/
theorem run_law (op : Int) (W : List (List UInt8)) : ∀ (d n : Nat) (l : List Int) (x : Nat), n + d = 3 → l.length = 3 → x ≤ W.length → wordsT op l n = W.take x →
    (runS op W d n l x = some (runI op W d n l x) ∧ wordsT op (runI op W d n l x) 3 = W ∧ insOkB op (rd (runI op W d n l x) 0) (rd (runI op W d n l x) 1) (rd (runI op W d n l x) 2) 32 = true) ∨
    (runS op W d n l x = none ∧ ¬ (wordsT op (runI op W d n l x) 3 = W ∧ insOkB op (rd (runI op W d n l x) 0) (rd (runI op W d n l x) 1) (rd (runI op W d n l x) 2) 32 = true))
  | 0, n, l, x, hn, hl, hx, hw => by
    obtain rfl : n = 3 := by omega
    unfold runS runI
    by_cases h : x = W.length
    · rw [h, List.take_length] at hw
      by_cases hok : insOkB op (rd l 0) (rd l 1) (rd l 2) 32 = true
      · rw [if_pos ⟨h, hok⟩]; exact .inl ⟨rfl, hw, hok⟩
      · rw [if_neg (fun q => hok q.2)]; exact .inr ⟨rfl, fun q => hok q.2⟩
    · rw [if_neg (fun q => h q.1)]
      refine .inr ⟨rfl, fun q => h ?_⟩
      have := congrArg List.length (hw.symm.trans q.1)
      rw [List.length_take] at this
      omega
  | d + 1, n, l, x, hn, hl, hx, hw => by
    have hlen : (wordsT op l n).length = x := by rw [hw, List.length_take]; omega
    cases hf : flB op n with
    | false =>
      have e1 : runS op W (d + 1) n l x = runS op W d (n + 1) l x := by rw [runS, hf, if_neg (by decide)]
      have e2 : runI op W (d + 1) n l x = runI op W d (n + 1) l x := by rw [runI, hf, if_neg (fun q => by cases q.1)]
      rw [e1, e2]
      refine run_law op W d (n + 1) l x (by omega) hl hx ?_
      show wordsT op l n ++ _ = _
      rw [hf, if_neg (by decide), List.append_nil, hw]
    | true =>
      by_cases hlt : x < W.length
      · have e2 : runI op W (d + 1) n l x = runI op W d (n + 1) (l.set n (puB (W.getD x [])).1) (x + 1) := by rw [runI, hf, if_pos ⟨rfl, hlt⟩]
        have hrn : rd (l.set n (puB (W.getD x [])).1) (n : Int) = (puB (W.getD x [])).1 := by rw [rd_set, if_pos ⟨rfl, by omega⟩]
        have hpre : wordsT op (l.set n (puB (W.getD x [])).1) n = wordsT op l n := words_congr op n (fun j hj => by rw [rd_set, if_neg (fun h => by omega)])
        by_cases hr : (puB (W.getD x [])).2 = true
        · have e1 : runS op W (d + 1) n l x = runS op W d (n + 1) (l.set n (puB (W.getD x [])).1) (x + 1) := by rw [runS, hf, if_pos rfl, if_pos hlt, if_pos hr]
          rw [e1, e2]
          refine run_law op W d (n + 1) _ (x + 1) (by omega) (by simpa using hl) (by omega) ?_
          show wordsT op _ n ++ _ = _
          rw [hpre, hf, if_pos rfl, hrn, hw, ← (uint_right hr).1, List.take_add_one, getD_some hlt]; rfl
        · have e1 : runS op W (d + 1) n l x = none := by rw [runS, hf, if_pos rfl, if_pos hlt, if_neg hr]
          rw [e1, e2]
          refine .inr ⟨rfl, fun q => ?_⟩
          generalize hL : runI op W d (n + 1) (l.set n (puB (W.getD x [])).1) (x + 1) = L at q
          have hk : ∀ j : Nat, j < n + 1 → rd L (j : Int) = rd (l.set n (puB (W.getD x [])).1) (j : Int) := fun j hj => by rw [← hL]; exact runI_keep op W d _ _ _ j hj
          obtain ⟨r, hr2⟩ := words_pre op L (n + 1) d
          have h3 : n + 1 + d = 3 := by omega
          rw [h3, q.1] at hr2
          have hW : wordsT op L (n + 1) = wordsT op l n ++ [Lib.itoa 0] := by
            rw [words_congr op (n + 1) hk]
            show wordsT op _ n ++ _ = _
            rw [hpre, hf, if_pos rfl, hrn, (uint_wrong hr).1]
          have hat : W[x]? = some (Lib.itoa 0) := by
            rw [hr2, hW, List.append_assoc, List.getElem?_append_right (by omega), hlen, Nat.sub_self]; rfl
          rw [getD_some hlt] at hat
          exact (uint_wrong hr).2 (Option.some.inj hat)
      · have e1 : runS op W (d + 1) n l x = none := by rw [runS, hf, if_pos rfl, if_neg hlt]
        have e2 : runI op W (d + 1) n l x = runI op W d (n + 1) l x := by rw [runI, hf, if_neg (fun q => hlt q.2)]
        rw [e1, e2]
        refine .inr ⟨rfl, fun q => ?_⟩
        generalize hL : runI op W d (n + 1) l x = L at q
        obtain ⟨r, hr2⟩ := words_pre op L (n + 1) d
        have h3 : n + 1 + d = 3 := by omega
        rw [h3, q.1] at hr2
        have hk : wordsT op L n = wordsT op l n := words_congr op n (fun j hj => by rw [← hL]; exact runI_keep op W d _ _ _ j (by omega))
        have hW : wordsT op L (n + 1) = wordsT op l n ++ [Lib.itoa (rd L (n : Int))] := by
          show wordsT op L n ++ _ = _
          rw [hk, hf, if_pos rfl]
        have := congrArg List.length hr2
        rw [hW] at this
        simp at this
        omega
/-- The program's fields lie in an int. -/
theorem runI_range (op : Int) (W : List (List UInt8)) : ∀ d n l x, (∀ j : Nat, 0 ≤ rd l (j : Int) ∧ rd l (j : Int) ≤ 1000000000) → ∀ j : Nat, 0 ≤ rd (runI op W d n l x) (j : Int) ∧ rd (runI op W d n l x) (j : Int) ≤ 1000000000
  | 0, n, l, x, h, j => h j
  | d + 1, n, l, x, h, j => by
    unfold runI
    split
    · refine runI_range op W d _ _ _ (fun i => ?_) j
      rw [rd_set]
      split
      · rcases puB_cases (W.getD x []) with ⟨n, h0, h1, e, hp⟩ | ⟨hp, _⟩ <;> rw [hp]
        · exact ⟨h0, h1⟩
        · exact ⟨by decide, by decide⟩
      · exact h i
    · exact runI_range op W d _ _ _ h j
/-- A text of the program's own is read back. -/
theorem runI_back (op : Int) (l : List Int) (hr : ∀ n : Nat, n < 3 → 0 ≤ rd l (n : Int) ∧ rd l (n : Int) ≤ 1000000000) : ∀ (d n : Nat) (m : List Int) (x : Nat), n + d = 3 → m.length = 3 → x = (wordsT op l n).length → (∀ j : Nat, j < n → rd m (j : Int) = rd l (j : Int)) → (∀ j : Nat, n ≤ j → j < 3 → flB op j = false → rd m (j : Int) = rd l (j : Int)) →
    ∀ j : Nat, j < 3 → rd (runI op (wordsT op l 3) d n m x) (j : Int) = rd l (j : Int)
  | 0, n, m, x, hn, hl, hx, h1, h2, j, hj => h1 j (by omega)
  | d + 1, n, m, x, hn, hl, hx, h1, h2, j, hj => by
    obtain ⟨r, hr2⟩ := words_pre op l (n + 1) d
    have h3 : n + 1 + d = 3 := by omega
    rw [h3] at hr2
    cases hf : flB op n with
    | false =>
      have hw : wordsT op l (n + 1) = wordsT op l n := by
        show wordsT op l n ++ _ = _
        rw [hf, if_neg (by decide), List.append_nil]
      rw [runI, hf, if_neg (fun q => by cases q.1)]
      refine runI_back op l hr d (n + 1) m x (by omega) hl (by rw [hw]; exact hx) (fun i hi => ?_) (fun i hi => h2 i (by omega)) j hj
      by_cases e : i = n
      · subst e; exact h2 i (Nat.le_refl _) (by omega) hf
      · exact h1 i (by omega)
    | true =>
      have hw : wordsT op l (n + 1) = wordsT op l n ++ [Lib.itoa (rd l (n : Int))] := by
        show wordsT op l n ++ _ = _
        rw [hf, if_pos rfl]
      have hlt : x < (wordsT op l 3).length := by rw [hr2, hw]; simp; omega
      have hg : (wordsT op l 3).getD x [] = Lib.itoa (rd l (n : Int)) := by
        rw [List.getD_eq_getElem?_getD, hr2, hw, List.append_assoc, List.getElem?_append_right (by omega), hx, Nat.sub_self]; rfl
      have hv := hr n (by omega)
      rw [runI, hf, if_pos ⟨rfl, hlt⟩, hg, puB_itoa hv.1 hv.2]
      refine runI_back op l hr d (n + 1) _ (x + 1) (by omega) (by simpa using hl) (by rw [hw, hx]; simp) (fun i hi => ?_) (fun i hi hi3 hfi => ?_) j hj
      · rw [rd_set]
        by_cases e : n = i
        · subst e; rw [if_pos ⟨rfl, by omega⟩]
        · rw [if_neg (fun q => e q.1)]; exact h1 i (by omega)
      · rw [rd_set, if_neg (fun q => by omega)]; exact h2 i (by omega) hi3 hfi
/-! ### What the functions compute -/
theorem flB_zero {op : Int} {n : Nat} (hn : n < 3) : (Go.bits .and .i64 (shr .i64 (l06 op) (n : Int)) 1 = 0) ↔ flB op n = false := by
  have hc : n = 0 ∨ n = 1 ∨ n = 2 := by omega
  have h6 : l06 op = 0 ∨ l06 op = 1 ∨ l06 op = 2 ∨ l06 op = 3 ∨ l06 op = 7 := by
    unfold l06
    repeat' split
    all_goals simp
  unfold flB
  rcases h6 with h | h | h | h | h <;> rw [h] <;> rcases hc with rfl | rfl | rfl <;> decide +kernel
theorem getD_mk {W : List (List UInt8)} {x : Nat} (h : x < W.length) : (W.map mkB).getD x ByteArray.empty = mkB (W.getD x []) := by
  rw [List.getD_eq_getElem?_getD, List.getElem?_map, getD_some h]; rfl
theorem put_set (t : Int × Int × Int) (n : Nat) (hn : n < 3) (v : Int) : [(impl_ParseIns.put t n v).1, (impl_ParseIns.put t n v).2.1, (impl_ParseIns.put t n v).2.2] = [t.1, t.2.1, t.2.2].set n v := by
  have hc : n = 0 ∨ n = 1 ∨ n = 2 := by omega
  rcases hc with rfl | rfl | rfl <;> rfl
def tri (l : List Int) : Int × Int × Int := (rd l 0, rd l 1, rd l 2)
theorem go_val (op : Int) (W : List (List UInt8)) (hW : ∀ w ∈ W, w.length ≤ 281474976710656) : ∀ (cs : List UInt8) (n x : Nat) (t : Int × Int × Int), n + cs.length = 3 → (∀ (i : Nat) c, cs[i]? = some c → (c.toNat = 45 ↔ flB op (n + i) = false)) →
    impl_ParseIns.go (W.map mkB) cs n x t = some (tri (runI op W cs.length n [t.1, t.2.1, t.2.2] x))
  | [], n, x, t, hn, hc => rfl
  | c :: cs, n, x, t, hn, hc => by
    have h0 : c.toNat = 45 ↔ flB op n = false := hc 0 c rfl
    have hc' : ∀ (i : Nat) d, cs[i]? = some d → (d.toNat = 45 ↔ flB op (n + 1 + i) = false) := fun i d hd => by
      have := hc (i + 1) d (by simpa using hd)
      rw [show n + (i + 1) = n + 1 + i by omega] at this
      exact this
    have hn' : n + 1 + cs.length = 3 := by simp at hn; omega
    rw [impl_ParseIns.go, List.length_map, List.length_cons, runI]
    by_cases h : flB op n = true ∧ x < W.length
    · have h1 : c.toNat ≠ 45 ∧ x < W.length := ⟨fun e => (by have q := h.1; rw [h0.1 e] at q; cases q), h.2⟩
      have hm : W.getD x [] ∈ W := List.mem_of_getElem? (getD_some h.2)
      rw [if_pos h, if_pos h1, getD_mk h.2, implUint_val (by rw [mkB_size]; exact hW _ hm), Option.bind_some, mkB_list, ← put_set t n (by omega)]
      exact go_val op W hW cs (n + 1) (x + 1) _ hn' hc'
    · have h1 : ¬ (c.toNat ≠ 45 ∧ x < W.length) := fun q => h ⟨by
        cases hf : flB op n with
        | true => rfl
        | false => exact absurd (h0.2 hf) q.1, q.2⟩
      rw [if_neg h, if_neg h1]
      exact go_val op W hW cs (n + 1) x t hn' hc'
def outS (op : Int) : Option (List Int) → Int × Int × Int × Int × Bool
  | some l => (op, rd l 0, rd l 1, rd l 2, true)
  | none => (0, 0, 0, 0, false)
theorem l1_val {op : Int} (o0 : 0 ≤ op) (o1 : op ≤ 16) (W : List (List UInt8)) (hWl : W.length ≤ 1000) : ∀ (d n : Nat) (l : List Int) (x : Nat), n + d = 3 → l.length = 3 → x ≤ W.length → Ev (fun k => spec_ParseIns.l1 k (W.map mkB) op l (x : Int) (n : Int)) (outS op (runS op W d n l x))
  | 0, n, l, x, hn, hl, hx => by
    obtain rfl : n = 3 := by omega
    refine ⟨3, fun k hk => ?_⟩
    obtain ⟨k, rfl⟩ : ∃ j, k = j + 3 := ⟨k - 3, by omega⟩
    show spec_ParseIns.l1 (k + 3) (W.map mkB) op l (x : Int) ((3 : Nat) : Int) = some _
    simp only [spec_ParseIns.l1, hl, List.length_map]
    rw [if_neg (by decide), if_pos (by decide), if_pos (by decide), if_pos (by decide), specInsOk_val, Option.bind_some]
    unfold runS
    by_cases h : x = W.length
    · rw [if_pos (by omega)]
      by_cases hok : insOkB op (rd l 0) (rd l 1) (rd l 2) 32 = true
      · rw [if_pos hok, if_pos ⟨h, hok⟩]; rfl
      · rw [if_neg hok, if_neg (fun q => hok q.2)]; rfl
    · rw [if_neg (by omega), if_neg (fun q => h q.1)]; rfl
  | d + 1, n, l, x, hn, hl, hx => by
    have hw : wrap64 ((n : Int) + 1) = ((n + 1 : Nat) : Int) := wrap_succ (N := 3) (by omega) (by omega)
    cases hf : flB op n with
    | false =>
      have e1 : runS op W (d + 1) n l x = runS op W d (n + 1) l x := by rw [runS, hf, if_neg (by decide)]
      obtain ⟨K, hK⟩ := l1_val o0 o1 W hWl d (n + 1) l x (by omega) hl hx
      rw [e1]
      refine ⟨K + 2, fun k hk => ?_⟩
      obtain ⟨k, rfl⟩ : ∃ j, k = j + 2 := ⟨k - 2, by omega⟩
      show spec_ParseIns.l1 (k + 2) (W.map mkB) op l (x : Int) (n : Int) = some _
      rw [spec_ParseIns.l1, if_pos (by omega), l06_val o0 o1, Option.bind_some, if_pos (by omega), if_pos ((flB_zero (by omega)).2 hf), hw]
      exact hK (k + 1) (by omega)
    | true =>
      have hz : ¬ (Go.bits .and .i64 (shr .i64 (l06 op) (n : Int)) 1 = 0) := fun e => by
        rw [(flB_zero (by omega)).1 e] at hf; cases hf
      by_cases hlt : x < W.length
      · obtain ⟨K1, h1⟩ := specUint_ev (mkB (W.getD x []))
        have hrd : rdOf ByteArray.empty (W.map mkB) (x : Int) = mkB (W.getD x []) := by
          unfold rdOf; rw [Int.toNat_natCast]; exact getD_mk hlt
        rw [mkB_list] at h1
        by_cases hr : (puB (W.getD x [])).2 = true
        · have e1 : runS op W (d + 1) n l x = runS op W d (n + 1) (l.set n (puB (W.getD x [])).1) (x + 1) := by rw [runS, hf, if_pos rfl, if_pos hlt, if_pos hr]
          obtain ⟨K, hK⟩ := l1_val o0 o1 W hWl d (n + 1) (l.set n (puB (W.getD x [])).1) (x + 1) (by omega) (by simpa using hl) (by omega)
          rw [e1]
          refine ⟨K + K1 + 2, fun k hk => ?_⟩
          obtain ⟨k, rfl⟩ : ∃ j, k = j + 2 := ⟨k - 2, by omega⟩
          have e2 : spec_ParseUint.f (k + 1) (mkB (W.getD x [])) = some (puB (W.getD x [])) := h1 (k + 1) (by omega)
          show spec_ParseIns.l1 (k + 2) (W.map mkB) op l (x : Int) (n : Int) = some _
          rw [spec_ParseIns.l1, if_pos (by omega), l06_val o0 o1, Option.bind_some, if_pos (by omega), if_neg hz, List.length_map, if_neg (by omega), if_pos (by omega), if_pos (by omega), hrd, e2, Option.bind_some, if_pos hr, if_pos (by omega), hw, wrap_succ hlt (by omega), Int.toNat_natCast]
          exact hK (k + 1) (by omega)
        · have e1 : runS op W (d + 1) n l x = none := by rw [runS, hf, if_pos rfl, if_pos hlt, if_neg hr]
          rw [e1]
          refine ⟨K1 + 2, fun k hk => ?_⟩
          obtain ⟨k, rfl⟩ : ∃ j, k = j + 2 := ⟨k - 2, by omega⟩
          have e2 : spec_ParseUint.f (k + 1) (mkB (W.getD x [])) = some (puB (W.getD x [])) := h1 (k + 1) (by omega)
          show spec_ParseIns.l1 (k + 2) (W.map mkB) op l (x : Int) (n : Int) = some _
          rw [spec_ParseIns.l1, if_pos (by omega), l06_val o0 o1, Option.bind_some, if_pos (by omega), if_neg hz, List.length_map, if_neg (by omega), if_pos (by omega), if_pos (by omega), hrd, e2, Option.bind_some, if_neg hr]
          rfl
      · have e1 : runS op W (d + 1) n l x = none := by rw [runS, hf, if_pos rfl, if_neg hlt]
        rw [e1]
        refine ⟨2, fun k hk => ?_⟩
        obtain ⟨k, rfl⟩ : ∃ j, k = j + 2 := ⟨k - 2, by omega⟩
        show spec_ParseIns.l1 (k + 2) (W.map mkB) op l (x : Int) (n : Int) = some _
        rw [spec_ParseIns.l1, if_pos (by omega), l06_val o0 o1, Option.bind_some, if_pos (by omega), if_neg hz, List.length_map, if_pos (by omega)]
        rfl
theorem idx_cases (x : ByteArray) : ∀ (zs : List ByteArray) (i : Nat), (∃ k, k < zs.length ∧ Lib.idxFromS zs x i = ((i + k : Nat) : Int) ∧ zs.getD k ByteArray.empty = x ∧ ∀ j, j < k → zs.getD j ByteArray.empty ≠ x) ∨ (Lib.idxFromS zs x i = -1 ∧ ∀ j, j < zs.length → zs.getD j ByteArray.empty ≠ x)
  | [], i => .inr ⟨rfl, fun j hj => by simp at hj⟩
  | z :: zs, i => by
    by_cases hz : z = x
    · refine .inl ⟨0, by simp, ?_, hz, fun j hj => by omega⟩
      simp [Lib.idxFromS, hz]
    · have e : Lib.idxFromS (z :: zs) x i = Lib.idxFromS zs x (i + 1) := by simp [Lib.idxFromS, hz]
      rcases idx_cases x zs (i + 1) with ⟨k, hk, h1, h2, h3⟩ | ⟨h1, h2⟩
      · refine .inl ⟨k + 1, by simp; omega, by rw [e, h1]; congr 1; omega, h2, fun j hj => ?_⟩
        cases j with
        | zero => exact hz
        | succ j => exact h3 j (by omega)
      · refine .inr ⟨by rw [e, h1], fun j hj => ?_⟩
        cases j with
        | zero => exact hz
        | succ j => exact h2 j (by simpa using hj)
theorem name_at (j : Nat) : nameT (j : Int) = namesT.getD j ByteArray.empty := by unfold nameT rdOf; rw [Int.toNat_natCast]
theorem list_eq {a b : ByteArray} : a.toList = b.toList ↔ a = b := by
  rw [toList_data, toList_data]
  exact ⟨fun h => ByteArray.ext (Array.toList_inj.mp h), fun h => by rw [h]⟩
theorem names_len : namesT.length = 17 := rfl
theorem spec_l0_step (W : List ByteArray) (hW : 0 < W.length) (n : Nat) (hn : n < 17) (k : Nat) : spec_ParseIns.l0 (k + 1) W (n : Int) = if nameT (n : Int) = W.getD 0 ByteArray.empty then spec_ParseIns.l1 k W (n : Int) [0, 0, 0] 1 0 else spec_ParseIns.l0 k W ((n + 1 : Nat) : Int) := by
  rw [spec_ParseIns.l0, if_pos (by omega), specOpName_val (by omega) (by omega), Option.bind_some, if_pos (by omega), wrap_succ hn (by omega)]
  have e : rdOf ByteArray.empty W 0 = W.getD 0 ByteArray.empty := rfl
  rw [e]
  by_cases h : nameT (n : Int) = W.getD 0 ByteArray.empty
  · rw [if_pos (list_eq.2 h), if_pos h, if_pos (by decide)]; rfl
  · rw [if_neg (fun q => h (list_eq.1 q)), if_neg h]
theorem join_len (w : List UInt8) (W : List (List UInt8)) (h : ((w :: W).map (·.length)).sum ≤ 600) (h2 : (w :: W).length ≤ 24) : (Lib.join (w :: W) [32]).length ≤ 700 := by
  rw [Lib.join_length]
  unfold Lib.lens
  simp at h2 ⊢ h
  omega
theorem insOk_zero {op a b c s : Int} (h : insOkB op a b c s = true) (n : Nat) (hn : n < 3) (hf : flB op n = false) : rd [a, b, c] (n : Int) = 0 := by
  obtain ⟨o0, o1⟩ := insOk_op h
  have hc : n = 0 ∨ n = 1 ∨ n = 2 := by omega
  rcases op_cases o0 o1 with rfl | rfl | rfl | rfl | rfl | rfl | rfl | rfl | rfl | rfl | rfl | rfl | rfl | rfl | rfl | rfl | rfl <;> rcases hc with rfl | rfl | rfl <;>
    first
      | (exfalso; revert hf; decide +kernel)
      | (simp [insOkB] at h; show _ = (0 : Int); first | exact h.2.1.1 | exact h.2.1.2 | exact h.2.2 | exact h.2.1 | omega)
theorem insOk_range {op a b c : Int} (h : insOkB op a b c 32 = true) (n : Nat) (hn : n < 3) : 0 ≤ rd [a, b, c] (n : Int) ∧ rd [a, b, c] (n : Int) ≤ 65535 := by
  have h2 : (0 ≤ a ∧ a ≤ 65535) ∧ (0 ≤ b ∧ b ≤ 65535) ∧ (0 ≤ c ∧ c ≤ 65535) := by
    unfold insOkB at h
    simp only [inB, Bool.and_eq_true, decide_eq_true_eq] at h
    obtain ⟨_, h⟩ := h
    split at h
    · simp at h; omega
    split at h
    · simp at h; omega
    split at h
    · simp at h; omega
    split at h
    · simp at h; omega
    split at h
    · simp at h; omega
    split at h
    · simp at h; omega
    split at h
    · simp at h; omega
    · cases h
  have hc : n = 0 ∨ n = 1 ∨ n = 2 := by omega
  rcases hc with rfl | rfl | rfl
  · exact h2.1
  · exact h2.2.1
  · exact h2.2.2
theorem tri_rd (L : List Int) (j : Nat) (hj : j < 3) : rd [rd L 0, rd L 1, rd L 2] (j : Int) = rd L (j : Int) := by
  have hc : j = 0 ∨ j = 1 ∨ j = 2 := by omega
  rcases hc with rfl | rfl | rfl <;> rfl
/-- A line's instruction: both read the same; and a valid instruction's own text gives that instruction. -/
theorem parse_ev (a : ByteArray) : ∃ r : Int × Int × Int × Int × Bool, Ev (fun k => impl_ParseIns.f k a) r ∧ Ev (fun k => spec_ParseIns.f k a) r ∧ (∀ op x y z : Int, insOkB op x y z 32 = true → a.data.toList = textT op x y z → r = (op, x, y, z, true)) := by
  have hI := implSplit_val a
  obtain ⟨K0, h0⟩ := specSplit_ev a
  have back : ∀ op x y z : Int, insOkB op x y z 32 = true → a.data.toList = textT op x y z → splitB a.data.toList = (wordsT op [x, y, z] 3, true) := by
    intro op x y z hok hs
    obtain ⟨o0, o1⟩ := insOk_op hok
    have hwb := words_wordB o0 o1 [x, y, z] 3
    have ht : a.data.toList = Lib.join (wordsT op [x, y, z] 3) [32] := by
      rw [hs]; unfold textT; rw [if_pos hok, part_join]
    have hlen : a.data.toList.length ≤ 600 := by
      have := part_len o0 o1 (l := [x, y, z]) (fun n hn => by have := insOk_range hok n hn; omega) 3 (Nat.le_refl _)
      rw [hs]; unfold textT; rw [if_pos hok]; omega
    have hall : a.data.toList.all okC = true := by
      rw [List.all_eq_true]
      intro b hb
      rw [ht] at hb
      obtain ⟨r, hr⟩ := words_cons op [x, y, z] 3
      have hwy := words_bytes o0 o1 [x, y, z] 3
      rw [hr] at hb hwy
      rw [Lib.join_cons] at hb
      rcases List.mem_append.1 hb with hb | hb
      · exact (okC_of ((hwy _ List.mem_cons_self).2 b hb)).1
      · unfold Lib.joinTail at hb
        obtain ⟨v, hv, hbv⟩ := List.mem_flatten.1 hb
        obtain ⟨w, hw, rfl⟩ := List.mem_map.1 hv
        rcases List.mem_append.1 hbv with h1 | h1
        · rw [List.mem_singleton.1 h1]; rfl
        · exact (okC_of ((hwy w (List.mem_cons_of_mem _ hw)).2 b h1)).1
    have hf : Lib.fields a.data.toList = wordsT op [x, y, z] 3 := by rw [ht]; exact fields_join hwb
    have hc : (wordsT op [x, y, z] 3).length ≤ 24 := by
      show (((([(nameT op).data.toList] ++ _) ++ _) ++ _) : List (List UInt8)).length ≤ 24
      simp only [List.length_append]
      repeat' split
      all_goals simp
    unfold splitB
    rw [if_pos ⟨hlen, hall⟩, hf, if_pos hc]
  have hsp : (splitB a.data.toList).2 = true → (∀ w ∈ (splitB a.data.toList).1, wordB w ∧ w.length ≤ 600) ∧ ((splitB a.data.toList).1.map (·.length)).sum ≤ 600 ∧ (splitB a.data.toList).1.length ≤ 24 := by
    intro hok
    unfold splitB at hok ⊢
    split at hok
    · rename_i h1
      split at hok
      · rename_i h2
        rw [if_pos h1, if_pos h2]
        have hsum := fieldsGo_bytes a.data.toList []
        rw [List.length_nil, Nat.zero_add] at hsum
        have hs2 : ((Lib.fields a.data.toList).map (·.length)).sum ≤ 600 := Nat.le_trans hsum h1.1
        refine ⟨fun w hw => ⟨(fields_words hw).1, ?_⟩, hs2, h2⟩
        have : ∀ (L : List (List UInt8)), w ∈ L → w.length ≤ (L.map (·.length)).sum := by
          intro L
          induction L with
          | nil => intro h; cases h
          | cons y L ih =>
            intro h
            rcases List.mem_cons.1 h with rfl | h
            · simp
            · have := ih h; simp; omega
        exact Nat.le_trans (this _ hw) hs2
      · cases hok
    · cases hok
  cases hS : splitB a.data.toList with
  | mk W ok =>
  rw [hS] at hI h0 hsp back
  have zeros : (ok = false ∨ W = []) → ∃ r : Int × Int × Int × Int × Bool, Ev (fun k => impl_ParseIns.f k a) r ∧ Ev (fun k => spec_ParseIns.f k a) r ∧ (∀ op x y z : Int, insOkB op x y z 32 = true → a.data.toList = textT op x y z → r = (op, x, y, z, true)) := by
    intro hno
    refine ⟨(0, 0, 0, 0, false), ⟨0, fun k _ => ?_⟩, ⟨K0 + 1, fun k hk => ?_⟩, fun op x y z hok hs => ?_⟩
    · show impl_ParseIns.f k a = some _
      unfold impl_ParseIns.f
      rw [hI, Option.bind_some]
      rcases hno with rfl | rfl
      · rfl
      · cases ok <;> rfl
    · obtain ⟨k, rfl⟩ : ∃ j, k = j + 1 := ⟨k - 1, by omega⟩
      have e : spec_SplitFields.f (k + 1) a = some (W.map mkB, ok) := h0 (k + 1) (by omega)
      show spec_ParseIns.f (k + 1) a = some _
      unfold spec_ParseIns.f
      rw [e, Option.bind_some]
      rcases hno with rfl | rfl
      · rfl
      · cases ok <;> rfl
    · exfalso
      obtain ⟨r, hr⟩ := words_cons op [x, y, z] 3
      have hb := back op x y z hok hs
      rw [hr] at hb
      rcases hno with rfl | rfl
      · cases congrArg Prod.snd hb
      · cases congrArg Prod.fst hb
  cases ok with
  | false => exact zeros (.inl rfl)
  | true =>
  cases W with
  | nil => exact zeros (.inr rfl)
  | cons w0 W' =>
  clear zeros
  obtain ⟨hwb, hsum, hcnt⟩ := hsp rfl
  have hj7 := join_len w0 W' hsum hcnt
  have hw0 : w0 ≠ [] := (hwb w0 List.mem_cons_self).1.1
  simp only at hwb hsum hcnt hI h0
  have hlen : (w0 :: W').length ≤ 24 := hcnt
  generalize hWW : w0 :: W' = W at *
  have hWl : 0 < W.length := by rw [← hWW]; simp
  have hg0 : (W.map mkB).getD 0 ByteArray.empty = mkB w0 := by rw [← hWW]; rfl
  have hmm : (W.map mkB).map (·.data.toList) = W := by
    rw [List.map_map]
    exact (List.map_congr_left (fun w _ => mkB_list w)).trans (List.map_id W)
  have hjne : Lib.join W [32] ≠ [] := by
    rw [← hWW, Lib.join_cons]
    intro e
    exact hw0 (List.append_eq_nil_iff.1 e).1
  have himpl : ∀ (fm : ByteArray) (op : Int) (t : Int × Int × Int), Lib.idxOfS namesT (mkB w0) = op → impl_formOf.f op = some fm → fm.size ≤ 3 → impl_ParseIns.go (W.map mkB) fm.data.toList 0 1 (0, 0, 0) = some t → (0 ≤ t.1 ∧ t.1 ≤ 1000000000) → (0 ≤ t.2.1 ∧ t.2.1 ≤ 1000000000) → (0 ≤ t.2.2 ∧ t.2.2 ≤ 1000000000) →
      Ev (fun k => impl_ParseIns.f k a) (if textT op t.1 t.2.1 t.2.2 = [] then (0, 0, 0, 0, false) else if textT op t.1 t.2.1 t.2.2 = Lib.join W [32] then (op, t.1, t.2.1, t.2.2, true) else (0, 0, 0, 0, false)) := by
    intro fm op t hop hfm hsz hgo r1 r2 r3
    obtain ⟨K, hK⟩ := formatIns_ev (op := op) (a := t.1) (b := t.2.1) (c := t.2.2) (by omega) (by omega) (by omega)
    refine ⟨K, fun k hk => ?_⟩
    have e : impl_FormatIns.f k op t.1 t.2.1 t.2.2 = some (mkB (textT op t.1 t.2.1 t.2.2)) := hK k hk
    show impl_ParseIns.f k a = some _
    unfold impl_ParseIns.f
    rw [hI, Option.bind_some, if_pos rfl, List.length_map, if_neg (by omega), show impl_opNames.f = some namesT from rfl, Option.bind_some, hg0, hop, hfm, Option.bind_some, hmm, if_pos ⟨hsz, by decide, by omega, by omega⟩, hgo, Option.bind_some, e, Option.bind_some, toList_data, mkB_list]
    by_cases h1 : textT op t.1 t.2.1 t.2.2 = []
    · rw [if_pos h1, if_pos h1]
    · rw [if_neg h1, if_neg h1]
      by_cases h2 : textT op t.1 t.2.1 t.2.2 = Lib.join W [32]
      · rw [if_pos h2, if_pos h2]
      · rw [if_neg h2, if_neg h2]
  have hspec : ∀ r, Ev (fun k => spec_ParseIns.l0 k (W.map mkB) ((0 : Nat) : Int)) r → Ev (fun k => spec_ParseIns.f k a) r := by
    intro r ⟨K, hK⟩
    refine ⟨K0 + K + 1, fun k hk => ?_⟩
    obtain ⟨k, rfl⟩ : ∃ j, k = j + 1 := ⟨k - 1, by omega⟩
    have e : spec_SplitFields.f (k + 1) a = some (W.map mkB, true) := h0 (k + 1) (by omega)
    show spec_ParseIns.f (k + 1) a = some _
    unfold spec_ParseIns.f
    rw [e, Option.bind_some, if_pos rfl, List.length_map, show ((W.length : Int) == 0) = false from beq_eq_false_iff_ne.mpr (by omega)]
    simp only [spec_ParseIns.j0]
    rw [if_neg (by decide)]
    exact hK k (by omega)
  rcases idx_cases (mkB w0) namesT 0 with ⟨o, ho, hidx, hnm, hne⟩ | ⟨hidx, hne⟩
  · rw [names_len] at ho
    rw [Nat.zero_add] at hidx
    have hidx : Lib.idxOfS namesT (mkB w0) = (o : Int) := hidx
    have hname : nameT (o : Int) = mkB w0 := (name_at o).trans hnm
    obtain ⟨fm, hfm, hfs, hfl⟩ := formOf_val (op := (o : Int)) (by omega) (by omega)
    have hL3 : fm.data.toList.length = 3 := by rw [← size_list]; exact hfs
    have hgo := go_val (o : Int) W (fun w hw => by have := (hwb w hw).2; omega) fm.data.toList 0 1 (0, 0, 0) (by omega) (fun i c hc => by
      have hi : i < 3 := by have := (List.getElem?_eq_some_iff.1 hc).1; omega
      have h := hfl i hi
      rw [bt_list hc] at h
      rw [Nat.zero_add, ← h]; omega)
    rw [hL3] at hgo
    have hrun := run_law (o : Int) W 3 0 [0, 0, 0] 1 (by omega) rfl (by omega) (by
      show [(nameT (o : Int)).data.toList] = _
      rw [hname, mkB_list, ← hWW]; rfl)
    have hrange := runI_range (o : Int) W 3 0 [0, 0, 0] 1 (fun j => by
      unfold rd
      rw [Int.toNat_natCast]
      rcases j with _ | _ | _ | j <;> simp)
    have hbk : ∀ op x y z : Int, insOkB op x y z 32 = true → a.data.toList = textT op x y z → op = (o : Int) ∧ ∀ j : Nat, j < 3 → rd (runI (o : Int) W 3 0 [0, 0, 0] 1) (j : Int) = rd [x, y, z] (j : Int) := by
      intro op x y z hok hs
      obtain ⟨q0, q1⟩ := insOk_op hok
      have hb := congrArg Prod.fst (back op x y z hok hs)
      simp only at hb
      obtain ⟨r, hr⟩ := words_cons op [x, y, z] 3
      have hnq : nameT op = nameT (o : Int) := by
        have h1 : w0 = (nameT op).data.toList := by
          rw [hr, ← hWW] at hb
          injection hb
        rw [hname, h1, mkB_data]
      have hoo : op = (o : Int) := by
        have : ∀ p q : Fin 17, nameT ((p.val : Nat) : Int) = nameT ((q.val : Nat) : Int) → p = q := by decide +kernel
        have h2 := this ⟨op.toNat, by omega⟩ ⟨o, ho⟩ (by
          show nameT ((op.toNat : Nat) : Int) = nameT (o : Int)
          rw [Int.toNat_of_nonneg q0]; exact hnq)
        have := congrArg Fin.val h2
        simp at this
        omega
      refine ⟨hoo, ?_⟩
      rw [hb, hoo]
      rw [hoo] at hok
      exact runI_back (o : Int) [x, y, z] (fun n hn => by have := insOk_range hok n hn; omega) 3 0 [0, 0, 0] 1 (by omega) rfl rfl (fun j hj => by omega) (fun j _ hj hf => by
        rw [insOk_zero hok j hj hf]
        have hc : j = 0 ∨ j = 1 ∨ j = 2 := by omega
        rcases hc with rfl | rfl | rfl <;> rfl)
    have him := himpl fm (o : Int) _ hidx hfm (by omega) hgo (hrange 0) (hrange 1) (hrange 2)
    have hsp1 := l1_val (op := (o : Int)) (by omega) (by omega) W (by omega) 3 0 [0, 0, 0] 1 (by omega) rfl (by omega)
    generalize runI (o : Int) W 3 0 [0, 0, 0] 1 = L at hgo hrun him hbk
    have hwc : wordsT (o : Int) [rd L 0, rd L 1, rd L 2] 3 = wordsT (o : Int) L 3 := words_congr _ 3 (fun j hj => tri_rd L j hj)
    have hsl : Ev (fun k => spec_ParseIns.l0 k (W.map mkB) ((0 : Nat) : Int)) (outS (o : Int) (runS (o : Int) W 3 0 [0, 0, 0] 1)) := by
      obtain ⟨K, hK⟩ := hsp1
      refine loop_to (fun k n (_ : Unit) => spec_ParseIns.l0 k (W.map mkB) (n : Int)) o (fun _ _ => True) _
        (fun n s hn _ => .inl ⟨(), trivial, 0, fun k _ => by
          rw [spec_l0_step _ (by rw [List.length_map]; exact hWl) n (by omega), if_neg (by rw [hg0, name_at]; exact hne n hn)]⟩)
        (fun s _ => ⟨K, fun k hk => by
          rw [spec_l0_step _ (by rw [List.length_map]; exact hWl) o (by omega), if_pos (by rw [hg0, hname])]
          exact hK k hk⟩) 0 () (Nat.zero_le _) trivial
    have him2 : Ev (fun k => impl_ParseIns.f k a) (if textT (o : Int) (rd L 0) (rd L 1) (rd L 2) = [] then (0, 0, 0, 0, false) else if textT (o : Int) (rd L 0) (rd L 1) (rd L 2) = Lib.join W [32] then ((o : Int), rd L 0, rd L 1, rd L 2, true) else (0, 0, 0, 0, false)) := him
    clear him
    rcases hrun with ⟨e1, e2, e3⟩ | ⟨e1, e2⟩
    · rw [e1] at hsl
      have ht : textT (o : Int) (rd L 0) (rd L 1) (rd L 2) = Lib.join W [32] := by
        unfold textT
        rw [if_pos e3, part_join, hwc, e2]
      refine ⟨((o : Int), rd L 0, rd L 1, rd L 2, true), ?_, hspec _ hsl, fun op x y z hok hs => ?_⟩
      · rw [if_neg (by rw [ht]; exact hjne), if_pos ht] at him2
        exact him2
      · obtain ⟨rfl, hj⟩ := hbk op x y z hok hs
        have j0 : rd L 0 = x := hj 0 (by omega)
        have j1 : rd L 1 = y := hj 1 (by omega)
        have j2 : rd L 2 = z := hj 2 (by omega)
        rw [j0, j1, j2]
    · rw [e1] at hsl
      refine ⟨(0, 0, 0, 0, false), ?_, hspec _ hsl, fun op x y z hok hs => ?_⟩
      · by_cases hok : insOkB (o : Int) (rd L 0) (rd L 1) (rd L 2) 32 = true
        · have ht : textT (o : Int) (rd L 0) (rd L 1) (rd L 2) = Lib.join (wordsT (o : Int) L 3) [32] := by
            unfold textT
            rw [if_pos hok, part_join, hwc]
          have hnj : textT (o : Int) (rd L 0) (rd L 1) (rd L 2) ≠ Lib.join W [32] := by
            rw [ht]
            intro q
            exact e2 ⟨join_inj (words_wordB (by omega) (by omega) L 3) (fun w hw => (hwb w hw).1) q, hok⟩
          split at him2 <;> exact him2
        · have ht : textT (o : Int) (rd L 0) (rd L 1) (rd L 2) = [] := by
            unfold textT
            rw [if_neg hok]
          rw [if_pos ht] at him2
          exact him2
      · exfalso
        obtain ⟨rfl, hj⟩ := hbk op x y z hok hs
        have j0 : rd L 0 = x := hj 0 (by omega)
        have j1 : rd L 1 = y := hj 1 (by omega)
        have j2 : rd L 2 = z := hj 2 (by omega)
        have hb := congrArg Prod.fst (back _ x y z hok hs)
        simp only at hb
        refine e2 ⟨?_, by rw [j0, j1, j2]; exact hok⟩
        rw [hb]
        exact words_congr _ 3 hj
  · have hidx : Lib.idxOfS namesT (mkB w0) = -1 := hidx
    have him := himpl ⟨#[]⟩ (-1) (0, 0, 0) hidx rfl (by decide) rfl (by decide) (by decide) (by decide)
    have ht : textT (-1) 0 0 0 = [] := by decide
    simp only [ht] at him
    rw [if_pos trivial] at him
    refine ⟨(0, 0, 0, 0, false), him, hspec _ ?_, fun op x y z hok hs => ?_⟩
    · refine loop_to (fun k n (_ : Unit) => spec_ParseIns.l0 k (W.map mkB) (n : Int)) 17 (fun _ _ => True) _
        (fun n s hn _ => .inl ⟨(), trivial, 0, fun k _ => by
          rw [spec_l0_step _ (by rw [List.length_map]; exact hWl) n (by omega), if_neg (by rw [hg0, name_at]; exact hne n (by rw [names_len]; exact hn))]⟩)
        (fun s _ => ⟨0, fun k _ => by
          rw [spec_ParseIns.l0, if_neg (by decide)]⟩) 0 () (Nat.zero_le _) trivial
    · exfalso
      obtain ⟨q0, q1⟩ := insOk_op hok
      have hb := congrArg Prod.fst (back op x y z hok hs)
      simp only at hb
      obtain ⟨r, hr⟩ := words_cons op [x, y, z] 3
      have h1 : w0 = (nameT op).data.toList := by
        rw [hr, ← hWW] at hb
        injection hb
      refine hne op.toNat (by rw [names_len]; omega) ?_
      rw [← name_at, Int.toNat_of_nonneg q0, h1, mkB_data]
end Go.Proofs.YtionemdnfhcfpaaDoor.HR
