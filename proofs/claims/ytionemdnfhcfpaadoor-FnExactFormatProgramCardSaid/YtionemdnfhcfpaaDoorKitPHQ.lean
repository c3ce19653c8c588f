import Derived.Test.YtionemdnfhcfpaaDoorNumAid
import Derived.Test.YtionemdnfhcfpaaDoorLoopAid
import Derived.Test.YtionemdnfhcfpaaDoorHQ7
import Derived.Test.YtionemdnfhcfpaaDoorHQ8
import Derived.Test.YtionemdnfhcfpaaDoorFieldsAid
import Derived.Lib.Strings
import Derived.Test.YtionemdnfhcfpaaDoorHQ1
import Derived.Test.YtionemdnfhcfpaaDoorHQ2
import Derived.Test.YtionemdnfhcfpaaDoorHQ3
import Derived.Test.YtionemdnfhcfpaaDoorHQ4
import Derived.Test.YtionemdnfhcfpaaDoorHQ10
import Derived.Test.YtionemdnfhcfpaaDoorHQ6
import Derived.Test.YtionemdnfhcfpaaDoorHQ13
import Derived.Test.YtionemdnfhcfpaaDoorHQ12
import Derived.Test.YtionemdnfhcfpaaDoorHQ11
import Derived.Test.YtionemdnfhcfpaaDoorHQ14
import Derived.Test.YtionemdnfhcfpaaDoorHQ15
/- The reference's numerals are the library's, and so are the program's. No condition but a number that an int holds. -/
set_option linter.unusedVariables false
set_option linter.unusedSimpArgs false
namespace Go.Proofs.YtionemdnfhcfpaaDoor.HQ
open Go Go.RowKit Go.Proofs.YtionemdnfhcfpaaDoorW.PrintWords Go.Proofs.YtionemdnfhcfpaaDoorW.PrintLast Go.Proofs.YtionemdnfhcfpaaDoor.Aid

theorem mk_append (a b : List UInt8) : (⟨a.toArray⟩ : ByteArray) ++ ⟨b.toArray⟩ = ⟨(a ++ b).toArray⟩ := by
  apply ByteArray.ext
  simp [ByteArray.data_append]
theorem mk_size (a : List UInt8) : (⟨a.toArray⟩ : ByteArray).size = a.length := by simp [ByteArray.size]
theorem fmtInt_val {n : Int} (h0 : -9223372036854775808 ≤ n) (h1 : n ≤ 9223372036854775807) : impl_FormatInt.f n = some ⟨(Lib.itoa n).toArray⟩ := by
  unfold impl_FormatInt.f strconv_Itoa.f
  rw [if_pos ⟨h0, h1⟩]; rfl
theorem figure_val {x : Int} (h0 : 0 ≤ x) (h1 : x < 10) : spec_l01Figure.f x = some (48 + x) := by
  unfold spec_l01Figure.f
  rw [if_pos h1, wrap_id (by omega) (by omega)]
  congr 1; omega
theorem str_one {d : Nat} (h : d < 10) : strOfNums [48 + (d : Int)] = ⟨[UInt8.ofNat (48 + d)].toArray⟩ := by
  unfold strOfNums
  have : (48 + (d : Int)).toNat = 48 + d := by omega
  simp [this]
def digs (u : Nat) : List UInt8 := if u = 0 then [] else Lib.decDigits u
theorem digs_step {u : Nat} (h : 0 < u) : digs u = digs (u / 10) ++ [UInt8.ofNat (48 + u % 10)] := by
  unfold digs
  rw [if_neg (by omega)]
  by_cases h1 : u < 10
  · rw [Lib.decDigits_one h1, if_pos (by omega), Nat.mod_eq_of_lt h1]; rfl
  · rw [Lib.decDigits, dif_neg h1, if_neg (by omega)]
theorem tmod_at {x : Int} {u : Nat} (h : x = (u : Int) ∨ x = -(u : Int)) : x.tmod 10 = ((u % 10 : Nat) : Int) ∨ x.tmod 10 = -((u % 10 : Nat) : Int) := by
  rcases h with rfl | rfl
  · left; rw [Int.tmod_eq_emod_of_nonneg (by omega)]; omega
  · right; rw [Int.neg_tmod, Int.tmod_eq_emod_of_nonneg (by omega)]; omega
theorem tdiv_at {x : Int} {u : Nat} (h : x = (u : Int) ∨ x = -(u : Int)) : x.tdiv 10 = ((u / 10 : Nat) : Int) ∨ x.tdiv 10 = -((u / 10 : Nat) : Int) := by
  rcases h with rfl | rfl
  · left; rw [Int.tdiv_eq_ediv_of_nonneg (by omega)]; omega
  · right; rw [Int.neg_tdiv, Int.tdiv_eq_ediv_of_nonneg (by omega)]; omega
theorem fmt_loop : ∀ (u : Nat) (x : Int) (m : Bool) (L : List UInt8), (x = (u : Int) ∨ x = -(u : Int)) → u ≤ 9223372036854775808 → L.length + (digs u).length ≤ 100 →
    Ev (fun k => spec_FormatInt.l0 k x m ⟨L.toArray⟩) ⟨((if m = true then [45] else []) ++ (digs u ++ L)).toArray⟩ := by
  intro u
  induction u using Nat.strongRecOn with
  | _ u ih =>
    intro x m L hx hu hl
    by_cases h0 : u = 0
    · subst h0
      have hx0 : x = 0 := by omega
      subst hx0
      refine ⟨1, fun k hk => ?_⟩
      obtain ⟨k, rfl⟩ : ∃ j, k = j + 1 := ⟨k - 1, by omega⟩
      have hsz := mk_size L
      simp only [spec_FormatInt.l0]
      rw [if_pos trivial]
      cases m with
      | true =>
        rw [if_pos rfl, if_pos (by rw [hsz]; omega)]
        exact congrArg some (mk_append [45] L)
      | false => rfl
    · have hd : u % 10 < 10 := by omega
      have hst := digs_step (u := u) (by omega)
      have hq := tdiv_at hx
      have hqw : wrap64 (x.tdiv 10) = x.tdiv 10 := wrap_id (by omega) (by omega)
      obtain ⟨K, hK⟩ := ih (u / 10) (by omega) (x.tdiv 10) m (UInt8.ofNat (48 + u % 10) :: L) hq (by omega) (by rw [hst] at hl; simp at hl ⊢; omega)
      refine ⟨K + 1, fun k hk => ?_⟩
      obtain ⟨k, rfl⟩ : ∃ j, k = j + 1 := ⟨k - 1, by omega⟩
      have e : spec_FormatInt.l0 k (x.tdiv 10) m ⟨(UInt8.ofNat (48 + u % 10) :: L).toArray⟩ = some _ := hK k (by omega)
      have happ : strOfNums [48 + ((u % 10 : Nat) : Int)] ++ ⟨L.toArray⟩ = ⟨(UInt8.ofNat (48 + u % 10) :: L).toArray⟩ := by
        rw [str_one hd, mk_append]; rfl
      have hsz : (strOfNums [48 + ((u % 10 : Nat) : Int)]).size + (⟨L.toArray⟩ : ByteArray).size ≤ 9223372036854775807 := by
        rw [str_one hd, mk_size, mk_size]; simp; omega
      have hfin : (if m = true then [45] else []) ++ (digs (u / 10) ++ (UInt8.ofNat (48 + u % 10) :: L)) = (if m = true then [45] else []) ++ (digs u ++ L) := by
        rw [hst]; simp
      rw [hfin] at e
      have go : ∀ y : Int, y = ((u % 10 : Nat) : Int) → ((spec_l01Figure.f y).bind fun t => ((some (([t] : List Int) : List Int)).bind fun z => (if (strOfNums z).size + (⟨L.toArray⟩ : ByteArray).size ≤ 9223372036854775807 then spec_FormatInt.l0 k (wrap64 (Int.tdiv x 10)) m ((strOfNums z) ++ ⟨L.toArray⟩) else none))) = some ⟨((if m = true then [45] else []) ++ (digs u ++ L)).toArray⟩ := by
        intro y hy
        rw [hy, figure_val (by omega) (by omega), Option.bind_some, Option.bind_some, if_pos hsz, happ, hqw, e]
      show spec_FormatInt.l0 (k + 1) x m ⟨L.toArray⟩ = some _
      simp only [spec_FormatInt.l0]
      rw [if_neg (by omega)]
      rcases tmod_at hx with ht | ht
      · rw [if_neg (by omega)]
        exact go _ ht
      · by_cases hz : x.tmod 10 < 0
        · rw [if_pos hz]
          exact go _ (by rw [wrap_id (by omega) (by omega)]; omega)
        · rw [if_neg hz]
          exact go _ (by omega)
theorem specFmt_ev {n : Int} (h0 : -9223372036854775808 ≤ n) (h1 : n ≤ 9223372036854775807) : Ev (fun k => spec_FormatInt.f k n) ⟨(Lib.itoa n).toArray⟩ := by
  by_cases hz : n = 0
  · subst hz
    refine Ev.congr (fun k => ?_) (ev_some _)
    unfold spec_FormatInt.f
    rw [if_pos rfl, itoa_pos (by omega), Lib.decDigits_one (by decide)]
    rfl
  · have hl : (digs n.natAbs).length ≤ 19 := by
      unfold digs
      rw [if_neg (by omega)]
      exact digits_len _ 19 (by omega) (by omega)
    have h := fmt_loop n.natAbs n (decide (n < 0)) [] (by omega) (by omega) (by simp; omega)
    have e : (if decide (n < 0) = true then [45] else []) ++ (digs n.natAbs ++ []) = Lib.itoa n := by
      have hd : digs n.natAbs = Lib.decDigits n.natAbs := by unfold digs; rw [if_neg (by omega)]
      unfold Lib.itoa
      rw [hd, List.append_nil]
      by_cases hn : n < 0
      · rw [if_pos (by simpa using hn), if_pos hn]; rfl
      · have : n.natAbs = n.toNat := by omega
        rw [if_neg (by simpa using hn), if_neg hn, this]; rfl
    rw [e] at h
    refine Ev.congr (fun k => ?_) h
    unfold spec_FormatInt.f
    rw [if_neg hz]
end Go.Proofs.YtionemdnfhcfpaaDoor.HQ
/- The fields of a line, as the program and as the reference tell them. No condition. -/
set_option linter.unusedVariables false
set_option linter.unusedSimpArgs false
namespace Go.Proofs.YtionemdnfhcfpaaDoor.HQ
open Go Go.RowKit Go.Proofs.YtionemdnfhcfpaaDoorW.PrintWords Go.Proofs.YtionemdnfhcfpaaDoorW.PrintLast Go.Proofs.YtionemdnfhcfpaaDoor.Aid

def mkB (l : List UInt8) : ByteArray := ⟨l.toArray⟩
theorem mkB_data (s : ByteArray) : mkB s.data.toList = s := by unfold mkB; cases s; simp
theorem mkB_list (l : List UInt8) : (mkB l).data.toList = l := by unfold mkB; simp
theorem mkB_size (l : List UInt8) : (mkB l).size = l.length := by simp [mkB, ByteArray.size]
theorem mkB_inj {a b : List UInt8} (h : mkB a = mkB b) : a = b := by rw [← mkB_list a, h, mkB_list]
theorem size_list (s : ByteArray) : s.size = s.data.toList.length := Array.length_toList.symm
theorem bt_list {s : ByteArray} {n : Nat} {c : UInt8} (h : s.data.toList[n]? = some c) : bt s (n : Int) = (c.toNat : Int) := by
  obtain ⟨hn, hc⟩ := List.getElem?_eq_some_iff.1 h
  have hs : n < s.size := by rw [size_list]; exact hn
  unfold bt
  rw [dif_pos (by simpa using hs)]
  congr 2
/-- What is left of the fields: those that are there, the one that is being read, the rest. -/
def restF (out : List (List UInt8)) (cur l : List UInt8) : List ByteArray × Bool :=
  if l.all okC = true then (if (out ++ Lib.fieldsGo cur l).length ≤ 24 then ((out ++ Lib.fieldsGo cur l).map mkB, true) else ([], false)) else ([], false)
theorem fin_ev (a : ByteArray) (out : List (List UInt8)) (b : Int) {i : Int} (hi : (a.size : Int) < i) : Ev (fun k => spec_SplitFields.l0 k a (out.map mkB) b i) (if out.length ≤ 24 then (out.map mkB, true) else ([], false)) := by
  refine ⟨1, fun k hk => ?_⟩
  obtain ⟨k, rfl⟩ : ∃ j, k = j + 1 := ⟨k - 1, by omega⟩
  show spec_SplitFields.l0 (k + 1) a (out.map mkB) b i = some _
  simp only [spec_SplitFields.l0, List.length_map]
  rw [if_neg (by omega)]
  by_cases h : out.length ≤ 24
  · rw [if_neg (by omega), if_pos h]
  · rw [if_pos (by omega), if_neg h]
theorem split_ev (a : ByteArray) (ha : a.size ≤ 600) : ∀ (d i b : Nat) (out : List (List UInt8)), a.size - i = d → i ≤ a.size → b ≤ i → out.length ≤ i →
    Ev (fun k => spec_SplitFields.l0 k a (out.map mkB) (b : Int) (i : Int)) (restF out ((a.data.toList.drop b).take (i - b)) (a.data.toList.drop i)) := by
  have hL := size_list a
  have hext : ∀ b i : Nat, i ≤ a.size → a.extract b i = mkB ((a.data.toList.drop b).take (i - b)) := by
    intro b i hi
    exact Lib.extract_eq a b i
  intro d
  induction d with
  | zero =>
    intro i b out hd hi hb ho
    obtain rfl : i = a.size := by omega
    have hdrop : a.data.toList.drop a.size = [] := by rw [hL]; exact List.drop_length
    rw [hdrop]
    have hw : wrap64 ((a.size : Int) + 1) = (a.size : Int) + 1 := wrap_id (by omega) (by omega)
    by_cases hbi : b < a.size
    · have hne : ((a.data.toList.drop b).take (a.size - b)).isEmpty = false := by
        rw [List.isEmpty_eq_false_iff]
        intro e
        have := congrArg List.length e
        simp at this
        omega
      have hr : restF out ((a.data.toList.drop b).take (a.size - b)) [] = (if (out ++ [(a.data.toList.drop b).take (a.size - b)]).length ≤ 24 then ((out ++ [(a.data.toList.drop b).take (a.size - b)]).map mkB, true) else ([], false)) := by
        have hg : Lib.fieldsGo ((a.data.toList.drop b).take (a.size - b)) [] = [(a.data.toList.drop b).take (a.size - b)] := by
          unfold Lib.fieldsGo
          rw [hne]; rfl
        unfold restF
        rw [hg, if_pos (show ([] : List UInt8).all okC = true from rfl)]
      rw [hr]
      obtain ⟨K, hK⟩ := fin_ev a (out ++ [(a.data.toList.drop b).take (a.size - b)]) ((a.size : Int) + 1) (i := (a.size : Int) + 1) (by omega)
      refine ⟨K + 3, fun k hk => ?_⟩
      obtain ⟨k, rfl⟩ : ∃ j, k = j + 3 := ⟨k - 3, by omega⟩
      have e := hK k (by omega)
      simp only [List.map_append, List.map_cons, List.map_nil] at e
      show spec_SplitFields.l0 (k + 3) a (out.map mkB) (b : Int) (a.size : Int) = some _
      simp only [spec_SplitFields.l0, spec_SplitFields.j1, spec_SplitFields.j2, List.length_map, hw, Int.toNat_natCast, hext b a.size (Nat.le_refl _)]
      rw [if_pos (by omega), if_neg (by omega), if_neg (by decide), if_neg (by omega), if_neg (by decide), if_pos (by omega), if_pos (by omega), if_pos (by omega), if_pos (by omega), if_pos (by omega), e]
      simp
    · obtain rfl : b = a.size := by omega
      have hr : restF out ((a.data.toList.drop a.size).take (a.size - a.size)) [] = (if out.length ≤ 24 then (out.map mkB, true) else ([], false)) := by
        unfold restF
        simp [Lib.fieldsGo]
      rw [hr]
      obtain ⟨K, hK⟩ := fin_ev a out ((a.size : Int) + 1) (i := (a.size : Int) + 1) (by omega)
      refine ⟨K + 3, fun k hk => ?_⟩
      obtain ⟨k, rfl⟩ : ∃ j, k = j + 3 := ⟨k - 3, by omega⟩
      have e : spec_SplitFields.l0 k a (out.map mkB) ((a.size : Int) + 1) ((a.size : Int) + 1) = some _ := hK k (by omega)
      show spec_SplitFields.l0 (k + 3) a (out.map mkB) (a.size : Int) (a.size : Int) = some _
      simp only [spec_SplitFields.l0, spec_SplitFields.j1, spec_SplitFields.j2, hw]
      rw [if_pos (by omega), if_neg (by omega), if_neg (by decide), if_neg (by omega), if_neg (by decide), if_neg (by omega), e]
  | succ d ih =>
    intro i b out hd hi hb ho
    have hlt : i < a.size := by omega
    obtain ⟨c, hc⟩ : ∃ c, a.data.toList[i]? = some c := ⟨_, List.getElem?_eq_getElem (by omega)⟩
    have hbt := bt_list hc
    have hdrop : a.data.toList.drop i = c :: a.data.toList.drop (i + 1) := by
      rw [List.drop_eq_getElem_cons (by omega)]
      congr 1
      exact (List.getElem?_eq_some_iff.1 hc).2
    have hw : wrap64 ((i : Int) + 1) = ((i + 1 : Nat) : Int) := wrap_succ hlt (by omega)
    rw [hdrop]
    by_cases hok : okC c = true
    · have hok' := of_decide_eq_true hok
      have hsp := isSp_ok hok
      have hall : ∀ l : List UInt8, (c :: l).all okC = l.all okC := fun l => by rw [List.all_cons, hok, Bool.true_and]
      have hbad : ∀ k, spec_SplitFields.l0 (k + 3) a (out.map mkB) (b : Int) (i : Int) = spec_SplitFields.j2 (k + 1) a (out.map mkB) (b : Int) (i : Int) ((c.toNat : Int) != 32) := fun k => by
        simp only [spec_SplitFields.l0, spec_SplitFields.j1, hbt]
        rw [if_pos (by omega), if_pos (by omega), if_pos (by omega), if_neg (by omega), if_neg (by simp; omega), if_pos (by omega), if_pos (by omega)]
      by_cases h32 : c.toNat = 32
      · have hs : Lib.isSp c = true := by rw [hsp]; simpa using h32
        by_cases hbi : b < i
        · have hne : (a.data.toList.drop b).take (i - b) ≠ [] := by
            intro e
            have := congrArg List.length e
            simp at this
            omega
          have hr : restF out ((a.data.toList.drop b).take (i - b)) (c :: a.data.toList.drop (i + 1)) = restF (out ++ [(a.data.toList.drop b).take (i - b)]) ((a.data.toList.drop (i + 1)).take (i + 1 - (i + 1))) (a.data.toList.drop (i + 1)) := by
            unfold restF
            rw [hall, Lib.fieldsGo_end _ _ _ hs hne]
            simp
          rw [hr]
          obtain ⟨K, hK⟩ := ih (i + 1) (i + 1) (out ++ [(a.data.toList.drop b).take (i - b)]) (by omega) (by omega) (Nat.le_refl _) (by simp; omega)
          refine ⟨K + 3, fun k hk => ?_⟩
          obtain ⟨k, rfl⟩ : ∃ j, k = j + 3 := ⟨k - 3, by omega⟩
          have e := hK k (by omega)
          simp only [List.map_append, List.map_cons, List.map_nil] at e
          show spec_SplitFields.l0 (k + 3) a (out.map mkB) (b : Int) (i : Int) = some _
          rw [hbad]
          simp only [spec_SplitFields.j2, List.length_map, hw, Int.toNat_natCast, hext b i hi]
          rw [if_neg (by simp; omega), if_pos (by omega), if_pos (by omega), if_pos (by omega), if_pos (by omega), if_pos (by omega)]
          exact e
        · obtain rfl : b = i := by omega
          have hr : restF out ((a.data.toList.drop b).take (b - b)) (c :: a.data.toList.drop (b + 1)) = restF out ((a.data.toList.drop (b + 1)).take (b + 1 - (b + 1))) (a.data.toList.drop (b + 1)) := by
            unfold restF
            rw [hall, Nat.sub_self, Nat.sub_self, List.take_zero, List.take_zero, Lib.fieldsGo_sp _ _ hs]
          rw [hr]
          obtain ⟨K, hK⟩ := ih (b + 1) (b + 1) out (by omega) (by omega) (Nat.le_refl _) (by omega)
          refine ⟨K + 3, fun k hk => ?_⟩
          obtain ⟨k, rfl⟩ : ∃ j, k = j + 3 := ⟨k - 3, by omega⟩
          have e := hK k (by omega)
          show spec_SplitFields.l0 (k + 3) a (out.map mkB) (b : Int) (b : Int) = some _
          rw [hbad]
          simp only [spec_SplitFields.j2, hw]
          rw [if_neg (by simp; omega), if_neg (by omega)]
          exact e
      · have hs : Lib.isSp c = false := by rw [hsp]; simpa using h32
        have htk : (a.data.toList.drop b).take (i + 1 - b) = (a.data.toList.drop b).take (i - b) ++ [c] := by
          rw [show i + 1 - b = (i - b) + 1 by omega, List.take_add_one, List.getElem?_drop, show b + (i - b) = i by omega, hc]; rfl
        have hr : restF out ((a.data.toList.drop b).take (i - b)) (c :: a.data.toList.drop (i + 1)) = restF out ((a.data.toList.drop b).take (i + 1 - b)) (a.data.toList.drop (i + 1)) := by
          unfold restF
          rw [hall, Lib.fieldsGo_more _ _ _ hs, htk]
        rw [hr]
        obtain ⟨K, hK⟩ := ih (i + 1) b out (by omega) (by omega) (by omega) (by omega)
        refine ⟨K + 3, fun k hk => ?_⟩
        obtain ⟨k, rfl⟩ : ∃ j, k = j + 3 := ⟨k - 3, by omega⟩
        have e := hK k (by omega)
        show spec_SplitFields.l0 (k + 3) a (out.map mkB) (b : Int) (i : Int) = some _
        rw [hbad]
        simp only [spec_SplitFields.j2, hw]
        rw [if_pos (by simp; omega)]
        exact e
    · have hr : restF out ((a.data.toList.drop b).take (i - b)) (c :: a.data.toList.drop (i + 1)) = ([], false) := by
        unfold restF
        rw [List.all_cons]
        simp [hok]
      rw [hr]
      have hok' : ¬ (32 ≤ c.toNat ∧ c.toNat ≤ 126) := fun h => hok (decide_eq_true h)
      refine ⟨2, fun k hk => ?_⟩
      obtain ⟨k, rfl⟩ : ∃ j, k = j + 2 := ⟨k - 2, by omega⟩
      show spec_SplitFields.l0 (k + 2) a (out.map mkB) (b : Int) (i : Int) = some _
      simp only [spec_SplitFields.l0, spec_SplitFields.j1, hbt]
      rw [if_pos (by omega), if_pos (by omega), if_pos (by omega)]
      by_cases h1 : (c.toNat : Int) < 32
      · rw [if_pos h1, if_pos trivial]
      · rw [if_neg h1, if_pos (by simp; omega)]
theorem splitB_small {a : ByteArray} (h : a.size ≤ 600) : splitB a.data.toList = if a.data.toList.all okC = true then (if (Lib.fields a.data.toList).length ≤ 24 then (Lib.fields a.data.toList, true) else ([], false)) else ([], false) := by
  have hL := size_list a
  unfold splitB
  by_cases h1 : a.data.toList.all okC = true
  · rw [if_pos ⟨by omega, h1⟩, if_pos h1]
  · rw [if_neg (fun x => h1 x.2), if_neg h1]
theorem specSplit_ev (a : ByteArray) : Ev (fun k => spec_SplitFields.f k a) ((splitB a.data.toList).1.map mkB, (splitB a.data.toList).2) := by
  have hL := size_list a
  by_cases h : a.size ≤ 600
  · have hr : restF [] ((a.data.toList.drop 0).take (0 - 0)) (a.data.toList.drop 0) = ((splitB a.data.toList).1.map mkB, (splitB a.data.toList).2) := by
      rw [splitB_small h, Nat.sub_self, List.take_zero, List.drop_zero]
      unfold restF Lib.fields
      rw [List.nil_append]
      by_cases h1 : a.data.toList.all okC = true
      · rw [if_pos h1, if_pos h1]
        split <;> rfl
      · rw [if_neg h1, if_neg h1]; rfl
    rw [← hr]
    refine Ev.congr (fun k => ?_) (split_ev a h a.size 0 0 [] (by omega) (by omega) (Nat.le_refl _) (by simp))
    unfold spec_SplitFields.f
    rw [Option.bind_some, if_neg (by omega)]
    rfl
  · refine Ev.congr (fun k => ?_) (ev_some _)
    unfold spec_SplitFields.f splitB
    rw [Option.bind_some, if_pos (by omega), if_neg (by omega)]
    rfl
theorem implSplit_val (a : ByteArray) : impl_SplitFields.f a = some ((splitB a.data.toList).1.map mkB, (splitB a.data.toList).2) := by
  have hL := size_list a
  have hbad : a.data.toList.any (fun b => impl_SplitFields.bad b.toNat) = !(a.data.toList.all okC) := by
    induction a.data.toList with
    | nil => rfl
    | cons b l ih =>
      have hb : impl_SplitFields.bad (b.toNat : Int) = !(okC b) := by
        unfold impl_SplitFields.bad okC
        rw [Bool.eq_iff_iff]
        simp
        omega
      rw [List.any_cons, List.all_cons, ih, hb, Bool.not_and]
  unfold impl_SplitFields.f
  by_cases h : a.size ≤ 600
  · rw [if_neg (by omega), hbad, splitB_small h]
    by_cases h1 : a.data.toList.all okC = true
    · rw [if_pos h1, h1, if_neg (by decide)]
      by_cases h2 : (Lib.fields a.data.toList).length ≤ 24
      · rw [if_neg (by omega), if_pos h2]; rfl
      · rw [if_pos (by omega), if_neg h2]; rfl
    · rw [if_neg h1, if_pos (by simpa using h1)]; rfl
  · have hs2 : splitB a.data.toList = ([], false) := by
      unfold splitB
      rw [if_neg (by omega)]
    rw [if_pos (by omega), hs2]; rfl
end Go.Proofs.YtionemdnfhcfpaaDoor.HQ
/- What the laws' loops over rows of strings tell: whether two rows are equal; marks, and that they are held. No condition but lengths that fit. -/
set_option linter.unusedVariables false
set_option linter.unusedSimpArgs false
namespace Go.Proofs.YtionemdnfhcfpaaDoor.HQ
open Go Go.RowKit Go.Proofs.YtionemdnfhcfpaaDoorW.PrintWords Go.Proofs.YtionemdnfhcfpaaDoorW.PrintLast Go.Proofs.YtionemdnfhcfpaaDoor.Aid

theorem rdS_at {l : List ByteArray} {n : Nat} (h : n < l.length) : l[n]? = some (rdOf ByteArray.empty l (n : Int)) := by
  simp [rdOf, List.getD_eq_getElem?_getD, h]
theorem eqStringS_same (a : List ByteArray) (hl : a.length ≤ 1048576) : Ev (fun k => laws_eqStringS.f k a a) true := by
  have h := loop_to (fun k n (_ : Unit) => laws_eqStringS.l0 k a a (n : Int)) a.length (fun _ _ => True) true
    (fun n s hn _ => Or.inl ⟨(), trivial, 0, fun k _ => by
      simp only [laws_eqStringS.l0]
      rw [if_pos (by omega), if_pos (by omega), if_pos (by omega), if_pos trivial, wrap_succ hn (by omega)]⟩)
    (fun s _ => ⟨0, fun k _ => by
      simp only [laws_eqStringS.l0]
      rw [if_neg (by omega)]⟩) 0 () (Nat.zero_le _) trivial
  refine Ev.congr (fun k => ?_) h
  unfold laws_eqStringS.f
  rw [if_pos rfl]
  rfl
/-- The mark of a number: some text, the same each time. -/
theorem markText_ok : ∀ (d : Nat) (n : Int) (s : ByteArray), n.toNat ≤ d → d ≤ 4611686018427387904 → s.size + d ≤ 4611686018427387905 → ∃ t : ByteArray, Ev (fun k => laws_markText.l0 k n s) t := by
  intro d
  induction d using Nat.strongRecOn with
  | _ d ih =>
    intro n s hn hd hs
    by_cases h : n > 0
    · have hq : n.tdiv 10 = n / 10 := Int.tdiv_eq_ediv_of_nonneg (by omega)
      have hone : ∀ x : Int, (strOfNums [x]).size = 1 := fun x => rfl
      obtain ⟨t, K, hK⟩ := ih (d - 1) (by omega) (n / 10) (strOfNums [(wrap64 (48 + (Int.tmod n 10))) % 256] ++ s) (by omega) (by omega) (by rw [ByteArray.size_append, hone]; omega)
      refine ⟨t, K + 1, fun k hk => ?_⟩
      obtain ⟨k, rfl⟩ : ∃ j, k = j + 1 := ⟨k - 1, by omega⟩
      have e : laws_markText.l0 k (n / 10) (strOfNums [(wrap64 (48 + (Int.tmod n 10))) % 256] ++ s) = some t := hK k (by omega)
      show laws_markText.l0 (k + 1) n s = some t
      simp only [laws_markText.l0]
      rw [if_pos h, Option.bind_some, if_pos (by rw [hone]; omega), hq, wrap_id (by omega) (by omega), e]
    · refine ⟨(⟨#[109]⟩ : ByteArray) ++ s, 1, fun k hk => ?_⟩
      obtain ⟨k, rfl⟩ : ∃ j, k = j + 1 := ⟨k - 1, by omega⟩
      show laws_markText.l0 (k + 1) n s = some _
      simp only [laws_markText.l0]
      rw [if_neg h, if_pos (by omega)]
theorem markOne (n : Nat) (hn : n ≤ 4611686018427387904) : ∃ t : ByteArray, Ev (fun k => laws_markText.f k (n : Int)) t := by
  by_cases h : n = 0
  · subst h
    refine ⟨⟨#[109, 48]⟩, Ev.congr (fun k => ?_) (ev_some _)⟩
    unfold laws_markText.f
    rw [if_pos (by decide)]
  · obtain ⟨t, ht⟩ := markText_ok n (n : Int) ⟨#[]⟩ (by omega) hn (by show 0 + n ≤ _; omega)
    refine ⟨t, Ev.congr (fun k => ?_) ht⟩
    unfold laws_markText.f
    rw [if_neg (by omega)]
open Classical in
noncomputable def mk_ (n : Nat) : ByteArray := if h : n ≤ 4611686018427387904 then (markOne n h).choose else ⟨#[]⟩
theorem mk_ev {n : Nat} (h : n ≤ 4611686018427387904) : Ev (fun k => laws_markText.f k (n : Int)) (mk_ n) := by
  unfold mk_
  rw [dif_pos h]
  exact (markOne n h).choose_spec
noncomputable def marks (n : Nat) : List ByteArray := (List.range n).map fun j => mk_ (j + 1)
theorem marks_at {n j : Nat} (h : j < n) : (marks n)[j]? = some (mk_ (j + 1)) := by simp [marks, h]
theorem marks_len (n : Nat) : (marks n).length = n := by simp [marks]
theorem markStringS_ev (l : List ByteArray) (hl : l.length ≤ 1048576) : Ev (fun k => laws_markStringS.f k l 1) (((l.length + 1 : Nat) : Int), marks l.length) := by
  have h := loop_to (fun k n (s : List ByteArray) => laws_markStringS.l0 k s ((n + 1 : Nat) : Int) (n : Int)) l.length (fun n s => s.length = l.length ∧ ∀ j, j < n → s[j]? = (marks l.length)[j]?) (((l.length + 1 : Nat) : Int), marks l.length)
    (fun n s hn hI => Or.inl ⟨s.set n (mk_ (n + 1)), (by
      have := set_upto (l := marks l.length) (x := mk_ (n + 1)) (by rw [marks_len]; exact hI.1) (by rw [marks_len]; exact hn) hI.2 (marks_at hn)
      rw [marks_len] at this
      exact this), by
      obtain ⟨K, hK⟩ := mk_ev (n := n + 1) (by omega)
      refine ⟨K, fun k hk => ?_⟩
      have e : laws_markText.f k ((n + 1 : Nat) : Int) = some (mk_ (n + 1)) := hK k hk
      have hs := hI.1
      simp only [laws_markStringS.l0]
      rw [if_pos (by omega), e, Option.bind_some, if_pos (by omega), wrap_succ hn (by omega), Int.toNat_natCast, wrap_succ (n := n + 1) (N := l.length + 1) (by omega) (by omega)]⟩)
    (fun s hI => ⟨0, fun k _ => by
      simp only [laws_markStringS.l0]
      have hs := hI.1
      rw [if_neg (by omega), all_upto (l := marks l.length) (by rw [marks_len]; exact hI.1) (fun j hj => hI.2 j (by rw [marks_len] at hj; exact hj))]⟩) 0 l (Nat.zero_le _) ⟨rfl, fun j hj => absurd hj (Nat.not_lt_zero _)⟩
  exact Ev.congr (fun k => rfl) h
theorem heldStringS_ev (m : Nat) (hl : m ≤ 1048576) : Ev (fun k => laws_heldStringS.f k (marks m) 1) ((m + 1 : Nat) : Int) := by
  have h := loop_to (fun k n (_ : Unit) => laws_heldStringS.l0 k (marks m) ((n + 1 : Nat) : Int) (n : Int)) m (fun n _ => True) ((m + 1 : Nat) : Int)
    (fun n s hn _ => Or.inl ⟨(), trivial, by
      obtain ⟨K, hK⟩ := mk_ev (n := n + 1) (by omega)
      refine ⟨K, fun k hk => ?_⟩
      have e : laws_markText.f k ((n + 1 : Nat) : Int) = some (mk_ (n + 1)) := hK k hk
      have hs := marks_len m
      have hr : rdOf ByteArray.empty (marks m) (n : Int) = mk_ (n + 1) := by
        have := rdS_at (l := marks m) (n := n) (by omega)
        rw [marks_at hn] at this
        exact (Option.some.inj this).symm
      simp only [laws_heldStringS.l0]
      rw [if_pos (by omega), if_pos (by omega), e, Option.bind_some, hr, if_pos rfl, wrap_succ hn (by omega), wrap_succ (n := n + 1) (N := m + 1) (by omega) (by omega)]⟩)
    (fun s _ => ⟨0, fun k _ => by
      simp only [laws_heldStringS.l0]
      have hs := marks_len m
      rw [if_neg (by omega)]⟩) 0 () (Nat.zero_le _) trivial
  exact Ev.congr (fun k => rfl) h
end Go.Proofs.YtionemdnfhcfpaaDoor.HQ
/- Whether an instruction is valid, as the program's table tells it. No condition. -/
set_option linter.unusedVariables false
set_option linter.unusedSimpArgs false
namespace Go.Proofs.YtionemdnfhcfpaaDoor.HQ
open Go Go.RowKit Go.Proofs.YtionemdnfhcfpaaDoorW.PrintWords Go.Proofs.YtionemdnfhcfpaaDoorW.PrintLast Go.Proofs.YtionemdnfhcfpaaDoor.Aid

def inB (n lo hi : Int) : Bool := decide (lo ≤ n) && decide (n ≤ hi)
def insOkB (op a b c s : Int) : Bool :=
  inB s 0 32 && (if op = 0 ∨ op = 12 ∨ op = 16 then a == 0 && b == 0 && c == 0
    else if op = 1 then inB a 0 3 && inB b 0 65535 && c == 0
    else if op = 2 ∨ op = 13 ∨ op = 14 ∨ op = 15 then inB a 0 3 && inB b 0 3 && c == 0
    else if op = 8 then inB a 0 3 && b == 0 && c == 0
    else if op = 10 then inB a 0 3 && inB b 0 s && c == 0
    else if op = 11 then a == 0 && inB b 0 s && c == 0
    else if 3 ≤ op ∧ op ≤ 9 then inB a 0 3 && inB b 0 3 && inB c 0 3
    else false)
theorem within_val (a b c : Int) : impl_within.f a b c = some (inB a b c) := by
  unfold impl_within.f inB
  by_cases h : b ≤ a
  · rw [if_pos (show a ≥ b from h)]; simp [h]
  · rw [if_neg (show ¬ a ≥ b from h)]; simp [h]
theorem isReg_val (a : Int) : impl_isReg.f a = some (inB a 0 3) := by unfold impl_isReg.f; rw [within_val]; rfl
theorem isWord_val (a : Int) : impl_IsWord.f a = some (inB a 0 65535) := by unfold impl_IsWord.f; rw [within_val]; rfl
def fieldB (form n s : Int) : Bool := if form = 82 then inB n 0 3 else if form = 87 then inB n 0 65535 else if form = 84 then inB n 0 s else n == 0
theorem isField_val (form n s : Int) : impl_isField.f form n s = some (fieldB form n s) := by
  unfold impl_isField.f fieldB
  rw [isReg_val, isWord_val, within_val]
  by_cases h : form = 82
  · simp [h]
  · by_cases h1 : form = 87
    · simp [h1]
    · by_cases h2 : form = 84 <;> simp [h, h1, h2]
theorem form_val (op : Int) (x y z : UInt8) (f : ByteArray) (hf : impl_formOf.f op = some f) (he : f = ⟨#[x, y, z]⟩) (a b c s : Int) :
    impl_InsOk.f op a b c s = some (inB s 0 32 && (fieldB (x.toNat : Int) a s && (fieldB (y.toNat : Int) b s && fieldB (z.toNat : Int) c s))) := by
  subst he
  unfold impl_InsOk.f
  rw [hf, Option.bind_some, if_neg (by rw [toList_data]; simp), within_val, Option.bind_some]
  cases inB s 0 32
  · rfl
  · rw [if_pos rfl, if_pos (show (0 : Int) < (((⟨#[x, y, z]⟩ : ByteArray).size : Nat) : Int) from by show (0 : Int) < ((3 : Nat) : Int); decide), show bt ⟨#[x, y, z]⟩ 0 = (x.toNat : Int) from rfl, isField_val, Option.bind_some]
    cases fieldB (x.toNat : Int) a s
    · rfl
    · rw [if_pos rfl, if_pos (show (1 : Int) < (((⟨#[x, y, z]⟩ : ByteArray).size : Nat) : Int) from by show (1 : Int) < ((3 : Nat) : Int); decide), show bt ⟨#[x, y, z]⟩ 1 = (y.toNat : Int) from rfl, isField_val, Option.bind_some]
      cases fieldB (y.toNat : Int) b s
      · rfl
      · rw [if_pos rfl, if_pos (show (2 : Int) < (((⟨#[x, y, z]⟩ : ByteArray).size : Nat) : Int) from by show (2 : Int) < ((3 : Nat) : Int); decide), show bt ⟨#[x, y, z]⟩ 2 = (z.toNat : Int) from rfl, isField_val, Option.bind_some]
        rfl
theorem insOk_val (op a b c s : Int) : impl_InsOk.f op a b c s = some (insOkB op a b c s) := by
  by_cases h : 0 ≤ op ∧ op ≤ 16
  · have hc : op = 0 ∨ op = 1 ∨ op = 2 ∨ op = 3 ∨ op = 4 ∨ op = 5 ∨ op = 6 ∨ op = 7 ∨ op = 8 ∨ op = 9 ∨ op = 10 ∨ op = 11 ∨ op = 12 ∨ op = 13 ∨ op = 14 ∨ op = 15 ∨ op = 16 := by omega
    rcases hc with rfl | rfl | rfl | rfl | rfl | rfl | rfl | rfl | rfl | rfl | rfl | rfl | rfl | rfl | rfl | rfl | rfl <;>
      (rw [form_val _ _ _ _ _ rfl rfl]; simp [insOkB, fieldB, Bool.and_assoc])
  · have hf : impl_formOf.f op = some ⟨#[]⟩ := by
      unfold impl_formOf.f
      rw [within_val, show inB op 0 16 = false by unfold inB; simp; omega]
      rfl
    have h0 : ¬ (op = 0 ∨ op = 12 ∨ op = 16) := by omega
    have h1 : ¬ op = 1 := by omega
    have h2 : ¬ (op = 2 ∨ op = 13 ∨ op = 14 ∨ op = 15) := by omega
    have h3 : ¬ op = 8 := by omega
    have h4 : ¬ op = 10 := by omega
    have h5 : ¬ op = 11 := by omega
    have h6 : ¬ (3 ≤ op ∧ op ≤ 9) := by omega
    unfold impl_InsOk.f insOkB
    rw [hf, Option.bind_some, if_pos (by rw [toList_data]), if_neg h0, if_neg h1, if_neg h2, if_neg h3, if_neg h4, if_neg h5, if_neg h6]
    simp
end Go.Proofs.YtionemdnfhcfpaaDoor.HQ
/- Whether an instruction is valid, as the reference's cases tell it. No condition. -/
set_option linter.unusedVariables false
set_option linter.unusedSimpArgs false
namespace Go.Proofs.YtionemdnfhcfpaaDoor.HQ
open Go Go.RowKit Go.Proofs.YtionemdnfhcfpaaDoorW.PrintWords Go.Proofs.YtionemdnfhcfpaaDoorW.PrintLast Go.Proofs.YtionemdnfhcfpaaDoor.Aid
theorem l01In_val (a b c : Int) : spec_l01In.f a b c = some (inB a b c) := by
  unfold spec_l01In.f inB
  by_cases h : b ≤ a
  · rw [if_pos (show a ≥ b from h)]; simp [h]
  · rw [if_neg (show ¬ a ≥ b from h)]; simp [h]
theorem l04Reg_val (a : Int) : spec_l04Reg.f a = some (inB a 0 3) := by unfold spec_l04Reg.f; rw [l01In_val]; rfl
theorem specIsWord_val (a : Int) : spec_IsWord.f a = some (inB a 0 65535) := by unfold spec_IsWord.f; rw [l01In_val]; rfl
theorem specInsOk_val (op a b c s : Int) (k : Nat) : spec_InsOk.f (k + 2) op a b c s = some (insOkB op a b c s) := by
  unfold spec_InsOk.f insOkB
  rw [l01In_val, Option.bind_some]
  cases inB s 0 32
  · rfl
  · rw [if_pos rfl]
    simp only [spec_InsOk.j0, spec_InsOk.j1, l01In_val, l04Reg_val, specIsWord_val, Option.bind_some, Bool.true_and]
    by_cases e0 : op = 0
    · subst e0; by_cases ha : a = 0 <;> by_cases hb : b = 0 <;> simp [ha, hb]
    by_cases e12 : op = 12
    · subst e12; by_cases ha : a = 0 <;> by_cases hb : b = 0 <;> simp [ha, hb]
    by_cases e16 : op = 16
    · subst e16; by_cases ha : a = 0 <;> by_cases hb : b = 0 <;> simp [ha, hb]
    by_cases e1 : op = 1
    · subst e1; cases inB a 0 3 <;> cases inB b 0 65535 <;> simp
    by_cases e2 : op = 2
    · subst e2; cases inB a 0 3 <;> cases inB b 0 3 <;> simp
    by_cases e13 : op = 13
    · subst e13; cases inB a 0 3 <;> cases inB b 0 3 <;> simp
    by_cases e14 : op = 14
    · subst e14; cases inB a 0 3 <;> cases inB b 0 3 <;> simp
    by_cases e15 : op = 15
    · subst e15; cases inB a 0 3 <;> cases inB b 0 3 <;> simp
    by_cases e8 : op = 8
    · subst e8; by_cases hb : b = 0 <;> cases inB a 0 3 <;> simp [hb]
    by_cases e10 : op = 10
    · subst e10; cases inB a 0 3 <;> cases inB b 0 s <;> simp
    by_cases e11 : op = 11
    · subst e11; by_cases ha : a = 0 <;> cases inB b 0 s <;> simp [ha]
    by_cases h39 : 3 ≤ op ∧ op ≤ 9
    · have : inB op 3 9 = true := by unfold inB; simp; omega
      cases inB a 0 3 <;> cases inB b 0 3 <;> simp [e0, e12, e16, e1, e2, e13, e14, e15, e8, e10, e11, this, h39]
    · have : inB op 3 9 = false := by unfold inB; simp; omega
      simp [e0, e12, e16, e1, e2, e13, e14, e15, e8, e10, e11, this, h39]
end Go.Proofs.YtionemdnfhcfpaaDoor.HQ
/- Whether a program is valid, as the program tells it. No condition. -/
set_option linter.unusedVariables false
set_option linter.unusedSimpArgs false
namespace Go.Proofs.YtionemdnfhcfpaaDoor.HQ
open Go Go.RowKit Go.Proofs.YtionemdnfhcfpaaDoorW.PrintWords Go.Proofs.YtionemdnfhcfpaaDoorW.PrintLast Go.Proofs.YtionemdnfhcfpaaDoor.Aid

def okIns (m : Nat) (x : S31) : Bool := insOkB x.f0 x.f1 x.f2 x.f3 (m : Int)
def progB (l : List S31) : Bool := decide (l.length ≤ 32) && l.all (okIns l.length)
theorem rdP_at {l : List S31} {n : Nat} (h : n < l.length) : l[n]? = some (rd_T31 l (n : Int)) := by
  simp [rd_T31, List.getD_eq_getElem?_getD, h]
theorem progOk_val (l : List S31) : impl_ProgramOk.f l = some (progB l) := by
  unfold impl_ProgramOk.f progB
  by_cases h : l.length ≤ 32
  · have hall : l.all (fun x => (impl_InsOk.f x.f0 x.f1 x.f2 x.f3 (l.length : Int)).isSome) = true := by
      rw [List.all_eq_true]; intro x _; rw [insOk_val]; rfl
    rw [if_pos h, if_pos hall]
    simp only [h, decide_true, Bool.true_and]
    congr 1
    rw [List.any_eq_not_all_not, Bool.not_not]
    congr 1
    funext x
    unfold impl_ProgramOk.bad okIns
    rw [insOk_val]
    cases insOkB x.f0 x.f1 x.f2 x.f3 (l.length : Int) <;> rfl
  · rw [if_neg h]
    simp [h]
end Go.Proofs.YtionemdnfhcfpaaDoor.HQ
/- Whether a program is valid, as the reference tells it. No condition but a length that fits. -/
set_option linter.unusedVariables false
set_option linter.unusedSimpArgs false
namespace Go.Proofs.YtionemdnfhcfpaaDoor.HQ
open Go Go.RowKit Go.Proofs.YtionemdnfhcfpaaDoorW.PrintWords Go.Proofs.YtionemdnfhcfpaaDoorW.PrintLast Go.Proofs.YtionemdnfhcfpaaDoor.Aid
theorem specProgOk_ev (l : List S31) (hl : l.length ≤ 1048576) : Ev (fun k => spec_ProgramOk.f k l) (progB l) := by
  have h := loop_to (fun k n (_ : Unit) => spec_ProgramOk.l0 k l (n : Int)) l.length (fun n _ => ∀ j : Nat, j < n → okIns l.length (rd_T31 l (j : Int)) = true) (progB l)
    (fun n s hn hI => by
      cases hb : okIns l.length (rd_T31 l (n : Int)) with
      | true =>
        refine Or.inl ⟨(), fun j hj => ?_, 2, fun k hk => ?_⟩
        · by_cases e : j = n
          · subst e; exact hb
          · exact hI j (by omega)
        · obtain ⟨k, rfl⟩ : ∃ m, k = m + 2 := ⟨k - 2, by omega⟩
          conv => lhs; unfold spec_ProgramOk.l0
          rw [if_pos (by omega), if_pos (by omega), specInsOk_val, Option.bind_some, if_pos (by exact hb), wrap_succ hn (by omega)]
      | false =>
        refine Or.inr ⟨2, fun k hk => ?_⟩
        obtain ⟨k, rfl⟩ : ∃ m, k = m + 2 := ⟨k - 2, by omega⟩
        unfold spec_ProgramOk.l0
        have hb' : insOkB (rd_T31 l (n : Int)).f0 (rd_T31 l (n : Int)).f1 (rd_T31 l (n : Int)).f2 (rd_T31 l (n : Int)).f3 (l.length : Int) = false := hb
        rw [if_pos (by omega), if_pos (by omega), specInsOk_val, Option.bind_some, if_neg (by rw [hb']; decide)]
        have : l.all (okIns l.length) = false := by
          rw [List.all_eq_false]
          exact ⟨_, List.mem_of_getElem? (rdP_at hn), by rw [hb]; decide⟩
        unfold progB
        rw [this, Bool.and_false])
    (fun s hI => ⟨0, fun k _ => by
      unfold spec_ProgramOk.l0
      rw [if_neg (by omega)]
      have : l.all (okIns l.length) = true := by
        rw [List.all_eq_true]
        intro x hx
        obtain ⟨j, hj, rfl⟩ := List.mem_iff_getElem.1 hx
        have h1 := hI j hj
        have h2 := rdP_at hj
        rw [List.getElem?_eq_getElem hj] at h2
        rw [Option.some.inj h2]
        exact h1
      unfold progB
      rw [this, Bool.and_true]
      congr 1
      simp only [decide_eq_decide]
      omega⟩) 0 () (Nat.zero_le _) (fun j hj => absurd hj (Nat.not_lt_zero _))
  exact Ev.congr (fun k => rfl) h
end Go.Proofs.YtionemdnfhcfpaaDoor.HQ
/- The text of an instruction, as the program and as the reference write it. No condition but fields that an int holds. -/
set_option linter.unusedVariables false
set_option linter.unusedSimpArgs false
namespace Go.Proofs.YtionemdnfhcfpaaDoor.HQ
open Go Go.RowKit Go.Proofs.YtionemdnfhcfpaaDoorW.PrintWords Go.Proofs.YtionemdnfhcfpaaDoorW.PrintLast Go.Proofs.YtionemdnfhcfpaaDoor.Aid

def namesT : List ByteArray := [⟨#[110, 111, 112]⟩, ⟨#[115, 101, 116]⟩, ⟨#[109, 111, 118, 101]⟩, ⟨#[97, 100, 100]⟩, ⟨#[115, 117, 98]⟩, ⟨#[109, 117, 108]⟩, ⟨#[120, 111, 114]⟩, ⟨#[108, 101, 115, 115]⟩, ⟨#[115, 101, 108, 102]⟩, ⟨#[112, 105, 99, 107]⟩, ⟨#[122, 101, 114, 111]⟩, ⟨#[106, 117, 109, 112]⟩, ⟨#[104, 97, 108, 116]⟩, ⟨#[108, 111, 97, 100]⟩, ⟨#[115, 116, 111, 114, 101]⟩, ⟨#[98, 117, 109, 112]⟩, ⟨#[98, 97, 114, 114, 105, 101, 114]⟩]
def nameT (op : Int) : ByteArray := rdOf ByteArray.empty namesT op
theorem inB16 {op : Int} (h0 : 0 ≤ op) (h1 : op ≤ 16) : inB op 0 16 = true := by unfold inB; simp [h0, h1]
theorem op_cases {op : Int} (h0 : 0 ≤ op) (h1 : op ≤ 16) : op = 0 ∨ op = 1 ∨ op = 2 ∨ op = 3 ∨ op = 4 ∨ op = 5 ∨ op = 6 ∨ op = 7 ∨ op = 8 ∨ op = 9 ∨ op = 10 ∨ op = 11 ∨ op = 12 ∨ op = 13 ∨ op = 14 ∨ op = 15 ∨ op = 16 := by omega
theorem opName_val {op : Int} (h0 : 0 ≤ op) (h1 : op ≤ 16) : impl_OpName.f op = some (nameT op) := by
  rcases op_cases h0 h1 with rfl | rfl | rfl | rfl | rfl | rfl | rfl | rfl | rfl | rfl | rfl | rfl | rfl | rfl | rfl | rfl | rfl <;> rfl
theorem specOpName_val {op : Int} (h0 : 0 ≤ op) (h1 : op ≤ 16) : spec_OpName.f op = some (nameT op) := by
  rcases op_cases h0 h1 with rfl | rfl | rfl | rfl | rfl | rfl | rfl | rfl | rfl | rfl | rfl | rfl | rfl | rfl | rfl | rfl | rfl <;> rfl
/-- Which fields an operation has, as bits. -/
def l06 (op : Int) : Int := if op = 0 ∨ op = 12 ∨ op = 16 then 0 else if op = 8 then 1 else if op = 11 then 2 else if op = 1 ∨ op = 2 ∨ op = 10 ∨ op = 13 ∨ op = 14 ∨ op = 15 then 3 else 7
theorem l06_val {op : Int} (h0 : 0 ≤ op) (h1 : op ≤ 16) (k : Nat) : spec_l06Fields.f (k + 1) op = some (l06 op) := by
  rcases op_cases h0 h1 with rfl | rfl | rfl | rfl | rfl | rfl | rfl | rfl | rfl | rfl | rfl | rfl | rfl | rfl | rfl | rfl | rfl <;> rfl
def flB (op : Int) (n : Nat) : Bool := l06 op = 7 || (l06 op = 3 && decide (n < 2)) || (l06 op = 1 && n == 0) || (l06 op = 2 && n == 1)
theorem flB_spec {op : Int} (h0 : 0 ≤ op) (h1 : op ≤ 16) {n : Nat} (hn : n < 3) : (Go.bits .and .i64 (shr .i64 (l06 op) (n : Int)) 1 = 1) ↔ flB op n = true := by
  have hc : n = 0 ∨ n = 1 ∨ n = 2 := by omega
  have h6 : l06 op = 0 ∨ l06 op = 1 ∨ l06 op = 2 ∨ l06 op = 3 ∨ l06 op = 7 := by
    unfold l06
    repeat' split
    all_goals simp
  unfold flB
  rcases h6 with h | h | h | h | h <;> rw [h] <;> rcases hc with rfl | rfl | rfl <;> decide +kernel
theorem formOf_val {op : Int} (h0 : 0 ≤ op) (h1 : op ≤ 16) : ∃ f : ByteArray, impl_formOf.f op = some f ∧ f.size = 3 ∧ ∀ n : Nat, n < 3 → ((bt f (n : Int) = 45) ↔ flB op n = false) := by
  have key : ∀ (f : ByteArray), impl_formOf.f op = some f → f.size = 3 → ((bt f ((0 : Nat) : Int) = 45) ↔ flB op 0 = false) → ((bt f ((1 : Nat) : Int) = 45) ↔ flB op 1 = false) → ((bt f ((2 : Nat) : Int) = 45) ↔ flB op 2 = false) →
      ∃ f : ByteArray, impl_formOf.f op = some f ∧ f.size = 3 ∧ ∀ n : Nat, n < 3 → ((bt f (n : Int) = 45) ↔ flB op n = false) := fun f hf hs a0 a1 a2 => ⟨f, hf, hs, fun n hn => by
    have hc : n = 0 ∨ n = 1 ∨ n = 2 := by omega
    rcases hc with rfl | rfl | rfl
    · exact a0
    · exact a1
    · exact a2⟩
  rcases op_cases h0 h1 with rfl | rfl | rfl | rfl | rfl | rfl | rfl | rfl | rfl | rfl | rfl | rfl | rfl | rfl | rfl | rfl | rfl <;>
    exact key _ rfl rfl (by decide +kernel) (by decide +kernel) (by decide +kernel)
/-- The text behind the name, field by field. -/
def partT (op : Int) (l : List Int) : Nat → List UInt8
  | 0 => (nameT op).data.toList
  | n + 1 => partT op l n ++ (if flB op n = true then 32 :: Lib.itoa (rd l (n : Int)) else [])
theorem name_len {op : Int} (h0 : 0 ≤ op) (h1 : op ≤ 16) : (nameT op).data.toList.length ≤ 7 := by
  rcases op_cases h0 h1 with rfl | rfl | rfl | rfl | rfl | rfl | rfl | rfl | rfl | rfl | rfl | rfl | rfl | rfl | rfl | rfl | rfl <;> decide +kernel
theorem itoa_len21 {n : Int} (h0 : -9223372036854775808 ≤ n) (h1 : n ≤ 9223372036854775807) : (Lib.itoa n).length ≤ 20 := by
  unfold Lib.itoa
  split
  · have := digits_len n.natAbs 19 (by omega) (by omega)
    simp; omega
  · have := digits_len n.toNat 19 (by omega) (by omega)
    omega
theorem part_len {op : Int} (h0 : 0 ≤ op) (h1 : op ≤ 16) {l : List Int} (hl : ∀ n : Nat, n < 3 → -9223372036854775808 ≤ rd l (n : Int) ∧ rd l (n : Int) ≤ 9223372036854775807) : ∀ n, n ≤ 3 → (partT op l n).length ≤ 7 + 21 * n
  | 0, _ => by have := name_len h0 h1; show (nameT op).data.toList.length ≤ _; omega
  | n + 1, hn => by
    have ih := part_len h0 h1 hl n (by omega)
    have hr := hl n (by omega)
    have := itoa_len21 hr.1 hr.2
    show (partT op l n ++ _).length ≤ _
    rw [List.length_append]
    split <;> simp <;> omega
theorem part_step (op : Int) (l : List Int) (n : Nat) (h : flB op n = true) : mkB (partT op l n) ++ ((⟨#[32]⟩ : ByteArray) ++ ⟨(Lib.itoa (rd l (n : Int))).toArray⟩) = mkB (partT op l (n + 1)) := by
  have e1 : (⟨#[32]⟩ : ByteArray) ++ ⟨(Lib.itoa (rd l (n : Int))).toArray⟩ = ⟨(32 :: Lib.itoa (rd l (n : Int))).toArray⟩ := mk_append [32] _
  rw [e1]
  show mkB (partT op l n) ++ mkB _ = mkB (partT op l n ++ _)
  rw [if_pos h]
  exact mk_append _ _
theorem part_skip (op : Int) (l : List Int) (n : Nat) (h : flB op n = false) : partT op l (n + 1) = partT op l n := by
  show partT op l n ++ _ = _
  rw [h, if_neg (by decide), List.append_nil]
theorem insOk_op {op a b c s : Int} (h : insOkB op a b c s = true) : 0 ≤ op ∧ op ≤ 16 := by
  refine Classical.byContradiction fun hn => ?_
  have h0 : ¬ (op = 0 ∨ op = 12 ∨ op = 16) := by omega
  have h1 : ¬ op = 1 := by omega
  have h2 : ¬ (op = 2 ∨ op = 13 ∨ op = 14 ∨ op = 15) := by omega
  have h3 : ¬ op = 8 := by omega
  have h4 : ¬ op = 10 := by omega
  have h5 : ¬ op = 11 := by omega
  have h6 : ¬ (3 ≤ op ∧ op ≤ 9) := by omega
  unfold insOkB at h
  rw [if_neg h0, if_neg h1, if_neg h2, if_neg h3, if_neg h4, if_neg h5, if_neg h6] at h
  simp at h
/-- The text of an instruction: none if it is not valid. -/
def textT (op a b c : Int) : List UInt8 := if insOkB op a b c 32 = true then partT op [a, b, c] 3 else []
theorem three {P : Int → Prop} {a b c : Int} (ha : P a) (hb : P b) (hc : P c) : ∀ n : Nat, n < 3 → P (rd [a, b, c] (n : Int)) := by
  intro n hn
  have h : n = 0 ∨ n = 1 ∨ n = 2 := by omega
  rcases h with rfl | rfl | rfl
  · exact ha
  · exact hb
  · exact hc
theorem formatIns_ev {op a b c : Int} (ha : -9223372036854775808 ≤ a ∧ a ≤ 9223372036854775807) (hb : -9223372036854775808 ≤ b ∧ b ≤ 9223372036854775807) (hc : -9223372036854775808 ≤ c ∧ c ≤ 9223372036854775807) :
    Ev (fun k => impl_FormatIns.f k op a b c) (mkB (textT op a b c)) := by
  cases hok : insOkB op a b c 32 with
  | false =>
    refine Ev.congr (fun k => ?_) (ev_some _)
    unfold impl_FormatIns.f textT
    rw [insOk_val, hok, Option.bind_some, if_neg (by decide), if_neg (by decide)]
    rfl
  | true =>
    obtain ⟨o0, o1⟩ := insOk_op hok
    have hr := three (P := fun x => -9223372036854775808 ≤ x ∧ x ≤ 9223372036854775807) ha hb hc
    obtain ⟨f, hf, hfs, hfl⟩ := formOf_val o0 o1
    have h := loop_to (fun k n (s : ByteArray) => impl_FormatIns.l0 k s [a, b, c] 3 (n : Int) op a b c) 3 (fun n s => s = mkB (partT op [a, b, c] n)) (mkB (partT op [a, b, c] 3))
      (fun n s hn hI => Or.inl ⟨mkB (partT op [a, b, c] (n + 1)), rfl, 0, fun k _ => by
        have hs : s = mkB (partT op [a, b, c] n) := hI
        subst hs
        have hlen := part_len o0 o1 hr n (by omega)
        have hrn := hr n hn
        have hil := itoa_len21 hrn.1 hrn.2
        have hsz1 : (⟨(Lib.itoa (rd [a, b, c] (n : Int))).toArray⟩ : ByteArray).size ≤ 20 := by rw [mk_size]; exact hil
        have hsz2 : (mkB (partT op [a, b, c] n)).size ≤ 100 := by rw [mkB_size]; omega
        simp only [impl_FormatIns.l0]
        rw [if_pos (by omega), if_pos (by omega), if_pos (by simp only [List.length_cons, List.length_nil]; omega), hf, Option.bind_some, if_pos (by omega), wrap_succ hn (by omega)]
        cases hfb : flB op n with
        | true =>
          rw [if_neg (by rw [hfl n hn, hfb]; decide), fmtInt_val hrn.1 hrn.2, Option.bind_some, if_pos (by omega), if_pos (by rw [ByteArray.size_append]; show _ + (1 + _) ≤ _; omega), part_step op _ n hfb]
        | false =>
          rw [if_pos ((hfl n hn).2 hfb), part_skip op _ n hfb]⟩)
      (fun s hI => ⟨0, fun k _ => by
        have hs : s = mkB (partT op [a, b, c] 3) := hI
        subst hs
        simp only [impl_FormatIns.l0]
        rw [if_neg (by omega)]⟩) 0 (mkB (partT op [a, b, c] 0)) (Nat.zero_le _) rfl
    refine Ev.congr (fun k => ?_) (show Ev _ (mkB (textT op a b c)) from by unfold textT; rw [if_pos hok]; exact h)
    unfold impl_FormatIns.f
    rw [insOk_val, hok, Option.bind_some, if_pos rfl, opName_val o0 o1, Option.bind_some, Option.bind_some, show nameT op = mkB (partT op [a, b, c] 0) from (mkB_data _).symm]
    rfl
theorem specFormatIns_ev {op a b c : Int} (ha : -9223372036854775808 ≤ a ∧ a ≤ 9223372036854775807) (hb : -9223372036854775808 ≤ b ∧ b ≤ 9223372036854775807) (hc : -9223372036854775808 ≤ c ∧ c ≤ 9223372036854775807) :
    Ev (fun k => spec_FormatIns.f k op a b c) (mkB (textT op a b c)) := by
  cases hok : insOkB op a b c 32 with
  | false =>
    refine ⟨2, fun k hk => ?_⟩
    obtain ⟨k, rfl⟩ : ∃ j, k = j + 2 := ⟨k - 2, by omega⟩
    show spec_FormatIns.f (k + 2) op a b c = some _
    unfold spec_FormatIns.f textT
    rw [specInsOk_val, hok, Option.bind_some, if_neg (by decide), if_neg (by decide)]
    rfl
  | true =>
    obtain ⟨o0, o1⟩ := insOk_op hok
    have hr := three (P := fun x => -9223372036854775808 ≤ x ∧ x ≤ 9223372036854775807) ha hb hc
    have h := loop_to (fun k n (s : ByteArray) => spec_FormatIns.l0 k s [a, b, c] (n : Int) op a b c) 3 (fun n s => s = mkB (partT op [a, b, c] n)) (mkB (partT op [a, b, c] 3))
      (fun n s hn hI => Or.inl ⟨mkB (partT op [a, b, c] (n + 1)), rfl, by
        have hs : s = mkB (partT op [a, b, c] n) := hI
        subst hs
        have hlen := part_len o0 o1 hr n (by omega)
        have hrn := hr n hn
        have hil := itoa_len21 hrn.1 hrn.2
        have hsz1 : (⟨(Lib.itoa (rd [a, b, c] (n : Int))).toArray⟩ : ByteArray).size ≤ 20 := by rw [mk_size]; exact hil
        have hsz2 : (mkB (partT op [a, b, c] n)).size ≤ 100 := by rw [mkB_size]; omega
        obtain ⟨K, hK⟩ := specFmt_ev hrn.1 hrn.2
        refine ⟨K + 1, fun k hk => ?_⟩
        obtain ⟨k, rfl⟩ : ∃ j, k = j + 1 := ⟨k - 1, by omega⟩
        have e : spec_FormatInt.f (k + 1) (rd [a, b, c] (n : Int)) = some ⟨(Lib.itoa (rd [a, b, c] (n : Int))).toArray⟩ := hK (k + 1) (by omega)
        have hap : (mkB (partT op [a, b, c] n) ++ (⟨#[32]⟩ : ByteArray)) ++ ⟨(Lib.itoa (rd [a, b, c] (n : Int))).toArray⟩ = mkB (partT op [a, b, c] n) ++ ((⟨#[32]⟩ : ByteArray) ++ ⟨(Lib.itoa (rd [a, b, c] (n : Int))).toArray⟩) := by
          apply ByteArray.ext
          simp [ByteArray.data_append]
        show spec_FormatIns.l0 (k + 1 + 1) _ _ _ _ _ _ _ = _
        rw [spec_FormatIns.l0]
        rw [if_pos (by omega), l06_val o0 o1, Option.bind_some, if_pos (by omega), wrap_succ hn (by omega)]
        cases hfb : flB op n with
        | true =>
          rw [if_pos ((flB_spec o0 o1 hn).2 hfb), if_pos (by omega), if_pos (by simp only [List.length_cons, List.length_nil]; omega), e, Option.bind_some, if_pos (by rw [ByteArray.size_append]; show _ + 1 + _ ≤ _; omega), hap, part_step op _ n hfb]
        | false =>
          rw [if_neg (by rw [flB_spec o0 o1 hn, hfb]; decide), part_skip op _ n hfb]⟩)
      (fun s hI => ⟨0, fun k _ => by
        have hs : s = mkB (partT op [a, b, c] 3) := hI
        subst hs
        simp only [spec_FormatIns.l0]
        rw [if_neg (by omega)]⟩) 0 (mkB (partT op [a, b, c] 0)) (Nat.zero_le _) rfl
    obtain ⟨K, hK⟩ := h
    refine ⟨K + 2, fun k hk => ?_⟩
    obtain ⟨k, rfl⟩ : ∃ j, k = j + 2 := ⟨k - 2, by omega⟩
    have e := hK (k + 2) (by omega)
    show spec_FormatIns.f (k + 2) op a b c = some _
    unfold spec_FormatIns.f textT
    rw [specInsOk_val, hok, Option.bind_some, if_pos rfl, specOpName_val o0 o1, Option.bind_some, if_pos rfl, show nameT op = mkB (partT op [a, b, c] 0) from (mkB_data _).symm]
    exact e
end Go.Proofs.YtionemdnfhcfpaaDoor.HQ
/- The lines of a program, as the program and as the reference write them. No condition but fields that an int holds. -/
set_option linter.unusedVariables false
set_option linter.unusedSimpArgs false
namespace Go.Proofs.YtionemdnfhcfpaaDoor.HQ
open Go Go.RowKit Go.Proofs.YtionemdnfhcfpaaDoorW.PrintWords Go.Proofs.YtionemdnfhcfpaaDoorW.PrintLast Go.Proofs.YtionemdnfhcfpaaDoor.Aid

def lineT (x : S31) : ByteArray := mkB (textT x.f0 x.f1 x.f2 x.f3)
def wfT (x : S31) : Prop := (-9223372036854775808 ≤ x.f1 ∧ x.f1 ≤ 9223372036854775807) ∧ (-9223372036854775808 ≤ x.f2 ∧ x.f2 ≤ 9223372036854775807) ∧ (-9223372036854775808 ≤ x.f3 ∧ x.f3 ≤ 9223372036854775807)
theorem take_line {p : List S31} {n : Nat} (hn : n < p.length) : (p.take (n + 1)).map lineT = (p.take n).map lineT ++ [lineT (rd_T31 p (n : Int))] := by
  rw [List.take_add_one, rdP_at hn]
  simp
theorem rd_mem {p : List S31} {n : Nat} (hn : n < p.length) : rd_T31 p (n : Int) ∈ p := List.mem_of_getElem? (rdP_at hn)
theorem formatProgram_ev {p : List S31} (hp : ∀ x ∈ p, wfT x) : Ev (fun k => impl_FormatProgram.f k p) (if progB p = true then (p.map lineT, true) else ([], false)) := by
  by_cases hok : progB p = true
  · rw [if_pos hok]
    have hs : p.length ≤ 32 := by
      unfold progB at hok
      rw [Bool.and_eq_true] at hok
      simpa using hok.1
    have h := loop_to (fun k n (s : List ByteArray) => impl_FormatProgram.l0 k s p (p.length : Int) (n : Int)) p.length (fun n s => s = (p.take n).map lineT) (p.map lineT, true)
      (fun n s hn hI => Or.inl ⟨(p.take (n + 1)).map lineT, rfl, by
        have hs' : s = (p.take n).map lineT := hI
        subst hs'
        have hx := hp _ (rd_mem hn)
        obtain ⟨K, hK⟩ := formatIns_ev (op := (rd_T31 p (n : Int)).f0) hx.1 hx.2.1 hx.2.2
        refine ⟨K, fun k hk => ?_⟩
        have e : impl_FormatIns.f k (rd_T31 p (n : Int)).f0 (rd_T31 p (n : Int)).f1 (rd_T31 p (n : Int)).f2 (rd_T31 p (n : Int)).f3 = some (lineT (rd_T31 p (n : Int))) := hK k hk
        simp only [impl_FormatProgram.l0]
        rw [if_pos (by omega), if_pos (by omega), if_pos (by omega), e, Option.bind_some, if_pos (by simp; omega), wrap_succ hn (by omega), take_line hn]⟩)
      (fun s hI => ⟨0, fun k _ => by
        have hs' : s = (p.take p.length).map lineT := hI
        subst hs'
        simp only [impl_FormatProgram.l0]
        rw [if_neg (by omega), List.take_length]⟩) 0 [] (Nat.zero_le _) rfl
    refine Ev.congr (fun k => ?_) h
    unfold impl_FormatProgram.f
    rw [progOk_val, hok, Option.bind_some, if_pos rfl]
    rfl
  · rw [if_neg hok]
    refine Ev.congr (fun k => ?_) (ev_some _)
    unfold impl_FormatProgram.f
    rw [progOk_val, Option.bind_some, if_neg hok]
theorem specFormatProgram_ev {p : List S31} (hl : p.length ≤ 1048576) (hp : ∀ x ∈ p, wfT x) : Ev (fun k => spec_FormatProgram.f k p) (if progB p = true then (p.map lineT, true) else ([], false)) := by
  obtain ⟨K0, h0⟩ := specProgOk_ev p hl
  by_cases hok : progB p = true
  · rw [if_pos hok]
    have h := loop_to (fun k n (s : List ByteArray) => spec_FormatProgram.l0 k p s (n : Int)) p.length (fun n s => s = (p.take n).map lineT) (p.map lineT, true)
      (fun n s hn hI => Or.inl ⟨(p.take (n + 1)).map lineT, rfl, by
        have hs' : s = (p.take n).map lineT := hI
        subst hs'
        have hx := hp _ (rd_mem hn)
        obtain ⟨K, hK⟩ := specFormatIns_ev (op := (rd_T31 p (n : Int)).f0) hx.1 hx.2.1 hx.2.2
        refine ⟨K, fun k hk => ?_⟩
        have e : spec_FormatIns.f k (rd_T31 p (n : Int)).f0 (rd_T31 p (n : Int)).f1 (rd_T31 p (n : Int)).f2 (rd_T31 p (n : Int)).f3 = some (lineT (rd_T31 p (n : Int))) := hK k hk
        simp only [spec_FormatProgram.l0]
        rw [if_pos (by omega), if_pos (by omega), e, Option.bind_some, if_pos (by simp; omega), wrap_succ hn (by omega), take_line hn]⟩)
      (fun s hI => ⟨0, fun k _ => by
        have hs' : s = (p.take p.length).map lineT := hI
        subst hs'
        simp only [spec_FormatProgram.l0]
        rw [if_neg (by omega), List.take_length]⟩) 0 [] (Nat.zero_le _) rfl
    obtain ⟨K1, h1⟩ := h
    refine ⟨K0 + K1, fun k hk => ?_⟩
    have e0 : spec_ProgramOk.f k p = some (progB p) := h0 k (by omega)
    have e1 : spec_FormatProgram.l0 k p [] 0 = some (p.map lineT, true) := h1 k (by omega)
    show spec_FormatProgram.f k p = some _
    unfold spec_FormatProgram.f
    rw [Option.bind_some, e0, hok, Option.bind_some, if_pos rfl, e1]
  · rw [if_neg hok]
    refine ⟨K0, fun k hk => ?_⟩
    have e0 : spec_ProgramOk.f k p = some (progB p) := h0 k hk
    show spec_FormatProgram.f k p = some _
    unfold spec_FormatProgram.f
    rw [Option.bind_some, e0, Option.bind_some, if_neg hok]
end Go.Proofs.YtionemdnfhcfpaaDoor.HQ
/- What the laws' own loops over rows of instructions tell: a copy, whether two rows are equal, how much is left. No condition but lengths that fit. -/
set_option linter.unusedVariables false
set_option linter.unusedSimpArgs false
namespace Go.Proofs.YtionemdnfhcfpaaDoor.HQ
open Go Go.RowKit Go.Proofs.YtionemdnfhcfpaaDoorW.PrintWords Go.Proofs.YtionemdnfhcfpaaDoorW.PrintLast Go.Proofs.YtionemdnfhcfpaaDoor.Aid

def conv (x : S29) : S31 := ⟨x.f0, x.f1, x.f2, x.f3⟩
theorem rdL_at {l : List S29} {n : Nat} (h : n < l.length) : l[n]? = some (rd_T29 l (n : Int)) := by
  simp [rd_T29, List.getD_eq_getElem?_getD, h]
theorem rdT_at {l : List S31} {n : Nat} (h : n < l.length) : l[n]? = some (rd_T31 l (n : Int)) := by
  simp [rd_T31, List.getD_eq_getElem?_getD, h]
theorem S31.ext_of {x y : S31} (h0 : x.f0 = y.f0) (h1 : x.f1 = y.f1) (h2 : x.f2 = y.f2) (h3 : x.f3 = y.f3) : x = y := by
  cases x; cases y; simp_all
theorem szInsS_small (l : List S29) (m : Int) (h0 : 0 ≤ m) (h1 : m ≤ 1048576) (hl : l.length ≤ 70368744177664) : laws_szInsS.f l m = some (if (l.length : Int) ≤ m then m - l.length else -1) := by
  unfold laws_szInsS.f
  rw [wrap_id (by omega) (by omega)]
  by_cases h : (l.length : Int) ≤ m
  · rw [if_neg (by omega), if_pos h]
  · rw [if_pos (by omega), if_neg h]

theorem toInsS_ev (l : List S29) (hl : l.length ≤ 1048576) : Ev (fun k => laws_toInsS.f k l) (l.map conv) := by
  have h := loop_to (fun k n (s : List S31) => laws_toInsS.l0 k l s (n : Int)) l.length (fun n s => s.length = (l.map conv).length ∧ ∀ j, j < n → s[j]? = (l.map conv)[j]?) (l.map conv)
    (fun n s hn hI => Or.inl ⟨s.set n (conv (rd_T29 l (n : Int))), set_upto hI.1 (by simpa using hn) hI.2 (by rw [List.getElem?_map, rdL_at hn]; rfl), 0, fun k _ => by
      simp only [laws_toInsS.l0]
      have hs := hI.1
      rw [List.length_map] at hs
      rw [if_pos (by omega), if_pos (by omega)]
      unfold laws_toIns.f
      rw [Option.bind_some, if_pos (by omega), wrap_succ hn (by omega), Int.toNat_natCast]
      rfl⟩)
    (fun s hI => ⟨0, fun k _ => by
      simp only [laws_toInsS.l0]
      rw [if_neg (by omega), all_upto hI.1 (fun j hj => hI.2 j (by simpa using hj))]⟩) 0 (List.replicate l.length z31) (Nat.zero_le _) ⟨by simp, fun j hj => absurd hj (Nat.not_lt_zero _)⟩
  refine Ev.congr (fun k => ?_) h
  unfold laws_toInsS.f
  rw [if_pos (by omega), if_pos (by omega)]
  simp

open Classical in
theorem eqIns_val (x y : S31) : laws_eqIns.f x.f0 x.f1 x.f2 x.f3 y.f0 y.f1 y.f2 y.f3 = some (decide (x = y)) := by
  unfold laws_eqIns.f
  by_cases h0 : x.f0 = y.f0
  · by_cases h1 : x.f1 = y.f1
    · by_cases h2 : x.f2 = y.f2
      · by_cases h3 : x.f3 = y.f3
        · have := S31.ext_of h0 h1 h2 h3
          simp [this]
        · have : x ≠ y := fun h => h3 (by rw [h])
          simp [h0, h1, h2, h3, this]
      · have : x ≠ y := fun h => h2 (by rw [h])
        simp [h0, h1, h2, this]
    · have : x ≠ y := fun h => h1 (by rw [h])
      simp [h0, h1, this]
  · have : x ≠ y := fun h => h0 (by rw [h])
    simp [h0, this]
open Classical in
theorem eqInsS_ev (a b : List S31) (hl : a.length ≤ 1048576) : Ev (fun k => laws_eqInsS.f k a b) (decide (a = b)) := by
  by_cases hlen : a.length = b.length
  · have h := loop_to (fun k n (_ : Unit) => laws_eqInsS.l0 k a b (n : Int)) a.length (fun n _ => ∀ j, j < n → a[j]? = b[j]?) (decide (a = b))
      (fun n s hn hI => by
        by_cases e : rd_T31 a (n : Int) = rd_T31 b (n : Int)
        · refine Or.inl ⟨(), fun j hj => ?_, 0, fun k _ => ?_⟩
          · by_cases hjn : j = n
            · subst hjn; rw [rdT_at hn, rdT_at (by omega), e]
            · exact hI j (by omega)
          · simp only [laws_eqInsS.l0]
            rw [if_pos (by omega), if_pos (by omega), if_pos (by omega), eqIns_val, Option.bind_some, if_pos (by simpa using e), wrap_succ hn (by omega)]
        · refine Or.inr ⟨0, fun k _ => ?_⟩
          simp only [laws_eqInsS.l0]
          rw [if_pos (by omega), if_pos (by omega), if_pos (by omega), eqIns_val, Option.bind_some, if_neg (by simpa using e)]
          have : a ≠ b := fun h => e (by rw [h])
          simp [this])
      (fun s hI => ⟨0, fun k _ => by
        simp only [laws_eqInsS.l0]
        rw [if_neg (by omega)]
        have : a = b := all_upto hlen (fun j hj => hI j (by omega))
        simp [this]⟩) 0 () (Nat.zero_le _) (fun j hj => absurd hj (Nat.not_lt_zero _))
    refine Ev.congr (fun k => ?_) h
    unfold laws_eqInsS.f
    rw [if_pos (by omega)]
    rfl
  · have : a ≠ b := fun h => hlen (by rw [h])
    refine Ev.congr (fun k => ?_) (ev_some _)
    unfold laws_eqInsS.f
    rw [if_neg (by omega)]
    simp [this]
theorem eqInsS_same (a : List S31) (hl : a.length ≤ 1048576) : Ev (fun k => laws_eqInsS.f k a a) true := by
  have := eqInsS_ev a a hl
  simpa using this
end Go.Proofs.YtionemdnfhcfpaaDoor.HQ
/- What the laws' marks on rows of instructions tell: a count. No condition but lengths that fit. -/
set_option linter.unusedVariables false
set_option linter.unusedSimpArgs false
namespace Go.Proofs.YtionemdnfhcfpaaDoor.HQ
open Go Go.RowKit Go.Proofs.YtionemdnfhcfpaaDoorW.PrintWords Go.Proofs.YtionemdnfhcfpaaDoorW.PrintLast Go.Proofs.YtionemdnfhcfpaaDoor.Aid

theorem markInsS_ev (l : List S31) (hl : l.length ≤ 1048576) : ∃ r : Int × List S31, 0 ≤ r.1 ∧ Ev (fun k => laws_markInsS.f k l 1) r := by
  have h := loop_ev (fun k n (s : List S31) => laws_markInsS.l0 k s ((4 * n + 1 : Nat) : Int) (n : Int)) l.length (fun n s => s.length = l.length) (fun r => 0 ≤ r.1)
    (fun n s hn hI => Or.inl (by
      have w1 : wrap64 (((4 * n + 1 : Nat) : Int) + 1) = ((4 * n + 2 : Nat) : Int) := wrap_succ (n := 4 * n + 1) (N := 4 * l.length + 9) (by omega) (by omega)
      have w2 : wrap64 (((4 * n + 2 : Nat) : Int) + 1) = ((4 * n + 3 : Nat) : Int) := wrap_succ (n := 4 * n + 2) (N := 4 * l.length + 9) (by omega) (by omega)
      have w3 : wrap64 (((4 * n + 3 : Nat) : Int) + 1) = ((4 * n + 4 : Nat) : Int) := wrap_succ (n := 4 * n + 3) (N := 4 * l.length + 9) (by omega) (by omega)
      have w4 : wrap64 (((4 * n + 4 : Nat) : Int) + 1) = ((4 * (n + 1) + 1 : Nat) : Int) := wrap_succ (n := 4 * n + 4) (N := 4 * l.length + 9) (by omega) (by omega)
      have w5 : wrap64 ((n : Int) + 1) = ((n + 1 : Nat) : Int) := wrap_succ hn (by omega)
      have key : ∃ s' : List S31, s'.length = l.length ∧ ∀ k, laws_markInsS.l0 (k + 1) s ((4 * n + 1 : Nat) : Int) (n : Int) = laws_markInsS.l0 k s' ((4 * (n + 1) + 1 : Nat) : Int) ((n + 1 : Nat) : Int) := by
        let y1 : List S31 := s.set (n : Int).toNat ⟨((4 * n + 1 : Nat) : Int), (rd_T31 s (n : Int)).f1, (rd_T31 s (n : Int)).f2, (rd_T31 s (n : Int)).f3⟩
        let y2 : List S31 := y1.set (n : Int).toNat ⟨(rd_T31 y1 (n : Int)).f0, ((4 * n + 2 : Nat) : Int), (rd_T31 y1 (n : Int)).f2, (rd_T31 y1 (n : Int)).f3⟩
        let y3 : List S31 := y2.set (n : Int).toNat ⟨(rd_T31 y2 (n : Int)).f0, (rd_T31 y2 (n : Int)).f1, ((4 * n + 3 : Nat) : Int), (rd_T31 y2 (n : Int)).f3⟩
        refine ⟨y3.set (n : Int).toNat ⟨(rd_T31 y3 (n : Int)).f0, (rd_T31 y3 (n : Int)).f1, (rd_T31 y3 (n : Int)).f2, ((4 * n + 4 : Nat) : Int)⟩, by simp [y1, y2, y3, hI], fun k => ?_⟩
        have hI' : s.length = l.length := hI
        simp only [laws_markInsS.l0]
        rw [if_pos (by omega), if_pos (by omega)]
        simp only [Option.bind_some, w1, w2, w3, w4, w5]
        rfl
      obtain ⟨s', h1, h2⟩ := key
      exact ⟨s', h1, 0, fun k _ => h2 k⟩))
    (fun s hI => ⟨(((4 * l.length + 1 : Nat) : Int), s), (by show (0 : Int) ≤ ((4 * l.length + 1 : Nat) : Int); omega), 0, fun k _ => by
      simp only [laws_markInsS.l0]
      rw [if_neg (by omega)]⟩) 0 l (Nat.zero_le _) rfl
  obtain ⟨r, hr, h⟩ := h
  exact ⟨r, hr, Ev.congr (fun k => rfl) h⟩
end Go.Proofs.YtionemdnfhcfpaaDoor.HQ
