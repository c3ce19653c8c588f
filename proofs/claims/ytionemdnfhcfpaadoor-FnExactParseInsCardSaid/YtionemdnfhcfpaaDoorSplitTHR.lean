/- The fields of a line, as the program and as the reference tell them. No condition. -/
import Derived.Test.YtionemdnfhcfpaaDoorFieldsAid
import Derived.Test.YtionemdnfhcfpaaDoorLoopAid
import Derived.Lib.Strings
import Derived.Test.YtionemdnfhcfpaaDoorHR2
import Derived.Test.YtionemdnfhcfpaaDoorHR7
set_option linter.unusedVariables false
set_option linter.unusedSimpArgs false
namespace Go.Proofs.YtionemdnfhcfpaaDoor.HR
open Go Go.RowKit Go.Proofs.YtionemdnfhcfpaaDoorW.PrintWords Go.Proofs.YtionemdnfhcfpaaDoorW.PrintLast Go.Proofs.YtionemdnfhcfpaaDoor.Aid

def mkB (l : List UInt8) : ByteArray := ⟨l.toArray⟩
theorem mkB_data (s : ByteArray) : mkB s.data.toList = s := by unfold mkB; cases s; simp
theorem mkB_list (l : List UInt8) : (mkB l).data.toList = l := by unfold mkB; simp
theorem mkB_size (l : List UInt8) : (mkB l).size = l.length := by simp [mkB, ByteArray.size]
theorem mkB_inj {a b : List UInt8} (h : mkB a = mkB b) : a = b := by rw [← mkB_list a, h, mkB_list]
theorem size_list (s : ByteArray) : s.size = s.data.toList.length := Array.length_toList.symm
theorem bt_list {s : ByteArray} {n : Nat} {c : UInt8} (h : s.data.toList[n]? = some c) : bt s (n : Int) = (c.toNat : Int) := by
  obtain ⟨hn, hc⟩ := List.getElem?_eq_some_iff.1 h
  have hs : n < s.size := by rw [size_list]; exact hn
  unfold bt
  rw [dif_pos (by simpa using hs)]
  congr 2
/-- What is left of the fields: those that are there, the one that is being read, the rest. -/
def restF (out : List (List UInt8)) (cur l : List UInt8) : List ByteArray × Bool :=
  if l.all okC = true then (if (out ++ Lib.fieldsGo cur l).length ≤ 24 then ((out ++ Lib.fieldsGo cur l).map mkB, true) else ([], false)) else ([], false)
theorem fin_ev (a : ByteArray) (out : List (List UInt8)) (b : Int) {i : Int} (hi : (a.size : Int) < i) : Ev (fun k => spec_SplitFields.l0 k a (out.map mkB) b i) (if out.length ≤ 24 then (out.map mkB, true) else ([], false)) := by
  refine ⟨1, fun k hk => ?_⟩
  obtain ⟨k, rfl⟩ : ∃ j, k = j + 1 := ⟨k - 1, by omega⟩
  show spec_SplitFields.l0 (k + 1) a (out.map mkB) b i = some _
  simp only [spec_SplitFields.l0, List.length_map]
  rw [if_neg (by omega)]
  by_cases h : out.length ≤ 24
  · rw [if_neg (by omega), if_pos h]
  · rw [if_pos (by omega), if_neg h]
theorem split_ev (a : ByteArray) (ha : a.size ≤ 600) : ∀ (d i b : Nat) (out : List (List UInt8)), a.size - i = d → i ≤ a.size → b ≤ i → out.length ≤ i →
    Ev (fun k => spec_SplitFields.l0 k a (out.map mkB) (b : Int) (i : Int)) (restF out ((a.data.toList.drop b).take (i - b)) (a.data.toList.drop i)) := by
  have hL := size_list a
  have hext : ∀ b i : Nat, i ≤ a.size → a.extract b i = mkB ((a.data.toList.drop b).take (i - b)) := by
    intro b i hi
    exact Lib.extract_eq a b i
  intro d
  induction d with
  | zero =>
    intro i b out hd hi hb ho
    obtain rfl : i = a.size := by omega
    have hdrop : a.data.toList.drop a.size = [] := by rw [hL]; exact List.drop_length
    rw [hdrop]
    have hw : wrap64 ((a.size : Int) + 1) = (a.size : Int) + 1 := wrap_id (by omega) (by omega)
    by_cases hbi : b < a.size
    · have hne : ((a.data.toList.drop b).take (a.size - b)).isEmpty = false := by
        rw [List.isEmpty_eq_false_iff]
        intro e
        have := congrArg List.length e
        simp at this
        omega
      have hr : restF out ((a.data.toList.drop b).take (a.size - b)) [] = (if (out ++ [(a.data.toList.drop b).take (a.size - b)]).length ≤ 24 then ((out ++ [(a.data.toList.drop b).take (a.size - b)]).map mkB, true) else ([], false)) := by
        have hg : Lib.fieldsGo ((a.data.toList.drop b).take (a.size - b)) [] = [(a.data.toList.drop b).take (a.size - b)] := by
          unfold Lib.fieldsGo
          rw [hne]; rfl
        unfold restF
        rw [hg, if_pos (show ([] : List UInt8).all okC = true from rfl)]
      rw [hr]
      obtain ⟨K, hK⟩ := fin_ev a (out ++ [(a.data.toList.drop b).take (a.size - b)]) ((a.size : Int) + 1) (i := (a.size : Int) + 1) (by omega)
      refine ⟨K + 3, fun k hk => ?_⟩
      obtain ⟨k, rfl⟩ : ∃ j, k = j + 3 := ⟨k - 3, by omega⟩
      have e := hK k (by omega)
      simp only [List.map_append, List.map_cons, List.map_nil] at e
      show spec_SplitFields.l0 (k + 3) a (out.map mkB) (b : Int) (a.size : Int) = some _
      simp only [spec_SplitFields.l0, spec_SplitFields.j1, spec_SplitFields.j2, List.length_map, hw, Int.toNat_natCast, hext b a.size (Nat.le_refl _)]
      rw [if_pos (by omega), if_neg (by omega), if_neg (by decide), if_neg (by omega), if_neg (by decide), if_pos (by omega), if_pos (by omega), if_pos (by omega), if_pos (by omega), if_pos (by omega), e]
      simp
    · obtain rfl : b = a.size := by omega
      have hr : restF out ((a.data.toList.drop a.size).take (a.size - a.size)) [] = (if out.length ≤ 24 then (out.map mkB, true) else ([], false)) := by
        unfold restF
        simp [Lib.fieldsGo]
      rw [hr]
      obtain ⟨K, hK⟩ := fin_ev a out ((a.size : Int) + 1) (i := (a.size : Int) + 1) (by omega)
      refine ⟨K + 3, fun k hk => ?_⟩
      obtain ⟨k, rfl⟩ : ∃ j, k = j + 3 := ⟨k - 3, by omega⟩
      have e : spec_SplitFields.l0 k a (out.map mkB) ((a.size : Int) + 1) ((a.size : Int) + 1) = some _ := hK k (by omega)
      show spec_SplitFields.l0 (k + 3) a (out.map mkB) (a.size : Int) (a.size : Int) = some _
      simp only [spec_SplitFields.l0, spec_SplitFields.j1, spec_SplitFields.j2, hw]
      rw [if_pos (by omega), if_neg (by omega), if_neg (by decide), if_neg (by omega), if_neg (by decide), if_neg (by omega), e]
  | succ d ih =>
    intro i b out hd hi hb ho
    have hlt : i < a.size := by omega
    obtain ⟨c, hc⟩ : ∃ c, a.data.toList[i]? = some c := ⟨_, List.getElem?_eq_getElem (by omega)⟩
    have hbt := bt_list hc
    have hdrop : a.data.toList.drop i = c :: a.data.toList.drop (i + 1) := by
      rw [List.drop_eq_getElem_cons (by omega)]
      congr 1
      exact (List.getElem?_eq_some_iff.1 hc).2
    have hw : wrap64 ((i : Int) + 1) = ((i + 1 : Nat) : Int) := wrap_succ hlt (by omega)
    rw [hdrop]
    by_cases hok : okC c = true
    · have hok' := of_decide_eq_true hok
      have hsp := isSp_ok hok
      have hall : ∀ l : List UInt8, (c :: l).all okC = l.all okC := fun l => by rw [List.all_cons, hok, Bool.true_and]
      have hbad : ∀ k, spec_SplitFields.l0 (k + 3) a (out.map mkB) (b : Int) (i : Int) = spec_SplitFields.j2 (k + 1) a (out.map mkB) (b : Int) (i : Int) ((c.toNat : Int) != 32) := fun k => by
        simp only [spec_SplitFields.l0, spec_SplitFields.j1, hbt]
        rw [if_pos (by omega), if_pos (by omega), if_pos (by omega), if_neg (by omega), if_neg (by simp; omega), if_pos (by omega), if_pos (by omega)]
      by_cases h32 : c.toNat = 32
      · have hs : Lib.isSp c = true := by rw [hsp]; simpa using h32
        by_cases hbi : b < i
        · have hne : (a.data.toList.drop b).take (i - b) ≠ [] := by
            intro e
            have := congrArg List.length e
            simp at this
            omega
          have hr : restF out ((a.data.toList.drop b).take (i - b)) (c :: a.data.toList.drop (i + 1)) = restF (out ++ [(a.data.toList.drop b).take (i - b)]) ((a.data.toList.drop (i + 1)).take (i + 1 - (i + 1))) (a.data.toList.drop (i + 1)) := by
            unfold restF
            rw [hall, Lib.fieldsGo_end _ _ _ hs hne]
            simp
          rw [hr]
          obtain ⟨K, hK⟩ := ih (i + 1) (i + 1) (out ++ [(a.data.toList.drop b).take (i - b)]) (by omega) (by omega) (Nat.le_refl _) (by simp; omega)
          refine ⟨K + 3, fun k hk => ?_⟩
          obtain ⟨k, rfl⟩ : ∃ j, k = j + 3 := ⟨k - 3, by omega⟩
          have e := hK k (by omega)
          simp only [List.map_append, List.map_cons, List.map_nil] at e
          show spec_SplitFields.l0 (k + 3) a (out.map mkB) (b : Int) (i : Int) = some _
          rw [hbad]
          simp only [spec_SplitFields.j2, List.length_map, hw, Int.toNat_natCast, hext b i hi]
          rw [if_neg (by simp; omega), if_pos (by omega), if_pos (by omega), if_pos (by omega), if_pos (by omega), if_pos (by omega)]
          exact e
        · obtain rfl : b = i := by omega
          have hr : restF out ((a.data.toList.drop b).take (b - b)) (c :: a.data.toList.drop (b + 1)) = restF out ((a.data.toList.drop (b + 1)).take (b + 1 - (b + 1))) (a.data.toList.drop (b + 1)) := by
            unfold restF
            rw [hall, Nat.sub_self, Nat.sub_self, List.take_zero, List.take_zero, Lib.fieldsGo_sp _ _ hs]
          rw [hr]
          obtain ⟨K, hK⟩ := ih (b + 1) (b + 1) out (by omega) (by omega) (Nat.le_refl _) (by omega)
          refine ⟨K + 3, fun k hk => ?_⟩
          obtain ⟨k, rfl⟩ : ∃ j, k = j + 3 := ⟨k - 3, by omega⟩
          have e := hK k (by omega)
          show spec_SplitFields.l0 (k + 3) a (out.map mkB) (b : Int) (b : Int) = some _
          rw [hbad]
          simp only [spec_SplitFields.j2, hw]
          rw [if_neg (by simp; omega), if_neg (by omega)]
          exact e
      · have hs : Lib.isSp c = false := by rw [hsp]; simpa using h32
        have htk : (a.data.toList.drop b).take (i + 1 - b) = (a.data.toList.drop b).take (i - b) ++ [c] := by
          rw [show i + 1 - b = (i - b) + 1 by omega, List.take_add_one, List.getElem?_drop, show b + (i - b) = i by omega, hc]; rfl
        have hr : restF out ((a.data.toList.drop b).take (i - b)) (c :: a.data.toList.drop (i + 1)) = restF out ((a.data.toList.drop b).take (i + 1 - b)) (a.data.toList.drop (i + 1)) := by
          unfold restF
          rw [hall, Lib.fieldsGo_more _ _ _ hs, htk]
        rw [hr]
        obtain ⟨K, hK⟩ := ih (i + 1) b out (by omega) (by omega) (by omega) (by omega)
        refine ⟨K + 3, fun k hk => ?_⟩
        obtain ⟨k, rfl⟩ : ∃ j, k = j + 3 := ⟨k - 3, by omega⟩
        have e := hK k (by omega)
        show spec_SplitFields.l0 (k + 3) a (out.map mkB) (b : Int) (i : Int) = some _
        rw [hbad]
        simp only [spec_SplitFields.j2, hw]
        rw [if_pos (by simp; omega)]
        exact e
    · have hr : restF out ((a.data.toList.drop b).take (i - b)) (c :: a.data.toList.drop (i + 1)) = ([], false) := by
        unfold restF
        rw [List.all_cons]
        simp [hok]
      rw [hr]
      have hok' : ¬ (32 ≤ c.toNat ∧ c.toNat ≤ 126) := fun h => hok (decide_eq_true h)
      refine ⟨2, fun k hk => ?_⟩
      obtain ⟨k, rfl⟩ : ∃ j, k = j + 2 := ⟨k - 2, by omega⟩
      show spec_SplitFields.l0 (k + 2) a (out.map mkB) (b : Int) (i : Int) = some _
      simp only [spec_SplitFields.l0, spec_SplitFields.j1, hbt]
      rw [if_pos (by omega), if_pos (by omega), if_pos (by omega)]
      by_cases h1 : (c.toNat : Int) < 32
      · rw [if_pos h1, if_pos trivial]
      · rw [if_neg h1, if_pos (by simp; omega)]
theorem splitB_small {a : ByteArray} (h : a.size ≤ 600) : splitB a.data.toList = if a.data.toList.all okC = true then (if (Lib.fields a.data.toList).length ≤ 24 then (Lib.fields a.data.toList, true) else ([], false)) else ([], false) := by
  have hL := size_list a
  unfold splitB
  by_cases h1 : a.data.toList.all okC = true
  · rw [if_pos ⟨by omega, h1⟩, if_pos h1]
  · rw [if_neg (fun x => h1 x.2), if_neg h1]
theorem specSplit_ev (a : ByteArray) : Ev (fun k => spec_SplitFields.f k a) ((splitB a.data.toList).1.map mkB, (splitB a.data.toList).2) := by
  have hL := size_list a
  by_cases h : a.size ≤ 600
  · have hr : restF [] ((a.data.toList.drop 0).take (0 - 0)) (a.data.toList.drop 0) = ((splitB a.data.toList).1.map mkB, (splitB a.data.toList).2) := by
      rw [splitB_small h, Nat.sub_self, List.take_zero, List.drop_zero]
      unfold restF Lib.fields
      rw [List.nil_append]
      by_cases h1 : a.data.toList.all okC = true
      · rw [if_pos h1, if_pos h1]
        split <;> rfl
      · rw [if_neg h1, if_neg h1]; rfl
    rw [← hr]
    refine Ev.congr (fun k => ?_) (split_ev a h a.size 0 0 [] (by omega) (by omega) (Nat.le_refl _) (by simp))
    unfold spec_SplitFields.f
    rw [Option.bind_some, if_neg (by omega)]
    rfl
  · refine Ev.congr (fun k => ?_) (ev_some _)
    unfold spec_SplitFields.f splitB
    rw [Option.bind_some, if_pos (by omega), if_neg (by omega)]
    rfl
theorem implSplit_val (a : ByteArray) : impl_SplitFields.f a = some ((splitB a.data.toList).1.map mkB, (splitB a.data.toList).2) := by
  have hL := size_list a
  have hbad : a.data.toList.any (fun b => impl_SplitFields.bad b.toNat) = !(a.data.toList.all okC) := by
    induction a.data.toList with
    | nil => rfl
    | cons b l ih =>
      have hb : impl_SplitFields.bad (b.toNat : Int) = !(okC b) := by
        unfold impl_SplitFields.bad okC
        rw [Bool.eq_iff_iff]
        simp
        omega
      rw [List.any_cons, List.all_cons, ih, hb, Bool.not_and]
  unfold impl_SplitFields.f
  by_cases h : a.size ≤ 600
  · rw [if_neg (by omega), hbad, splitB_small h]
    by_cases h1 : a.data.toList.all okC = true
    · rw [if_pos h1, h1, if_neg (by decide)]
      by_cases h2 : (Lib.fields a.data.toList).length ≤ 24
      · rw [if_neg (by omega), if_pos h2]; rfl
      · rw [if_pos (by omega), if_neg h2]; rfl
    · rw [if_neg h1, if_pos (by simpa using h1)]; rfl
  · have hs2 : splitB a.data.toList = ([], false) := by
      unfold splitB
      rw [if_neg (by omega)]
    rw [if_pos (by omega), hs2]; rfl
end Go.Proofs.YtionemdnfhcfpaaDoor.HR
