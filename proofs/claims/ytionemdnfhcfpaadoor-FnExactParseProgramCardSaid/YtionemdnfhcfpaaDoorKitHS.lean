import Derived.Test.YtionemdnfhcfpaaDoorNumAid
import Derived.Test.YtionemdnfhcfpaaDoorLoopAid
import Derived.Test.YtionemdnfhcfpaaDoorHS2
import Derived.Test.YtionemdnfhcfpaaDoorHS7
import Derived.Test.YtionemdnfhcfpaaDoorFieldsAid
import Derived.Lib.Strings
import Derived.Test.YtionemdnfhcfpaaDoorHS3
import Derived.Test.YtionemdnfhcfpaaDoorHS8
import Derived.Test.YtionemdnfhcfpaaDoorHS4
import Derived.Test.YtionemdnfhcfpaaDoorHS5
import Derived.Test.YtionemdnfhcfpaaDoorHS6
import Derived.Test.YtionemdnfhcfpaaDoorHS9
import Derived.Test.YtionemdnfhcfpaaDoorHS1
/- The reference's numerals are the library's, and so are the program's. No condition but a number that an int holds. -/
set_option linter.unusedVariables false
set_option linter.unusedSimpArgs false
namespace Go.Proofs.YtionemdnfhcfpaaDoor.HS
open Go Go.RowKit Go.Proofs.YtionemdnfhcfpaaDoorW.PrintWords Go.Proofs.YtionemdnfhcfpaaDoorW.PrintLast Go.Proofs.YtionemdnfhcfpaaDoor.Aid

theorem mk_append (a b : List UInt8) : (⟨a.toArray⟩ : ByteArray) ++ ⟨b.toArray⟩ = ⟨(a ++ b).toArray⟩ := by
  apply ByteArray.ext
  simp [ByteArray.data_append]
theorem mk_size (a : List UInt8) : (⟨a.toArray⟩ : ByteArray).size = a.length := by simp [ByteArray.size]
theorem fmtInt_val {n : Int} (h0 : -9223372036854775808 ≤ n) (h1 : n ≤ 9223372036854775807) : impl_FormatInt.f n = some ⟨(Lib.itoa n).toArray⟩ := by
  unfold impl_FormatInt.f strconv_Itoa.f
  rw [if_pos ⟨h0, h1⟩]; rfl
theorem figure_val {x : Int} (h0 : 0 ≤ x) (h1 : x < 10) : spec_l01Figure.f x = some (48 + x) := by
  unfold spec_l01Figure.f
  rw [if_pos h1, wrap_id (by omega) (by omega)]
  congr 1; omega
theorem str_one {d : Nat} (h : d < 10) : strOfNums [48 + (d : Int)] = ⟨[UInt8.ofNat (48 + d)].toArray⟩ := by
  unfold strOfNums
  have : (48 + (d : Int)).toNat = 48 + d := by omega
  simp [this]
def digs (u : Nat) : List UInt8 := if u = 0 then [] else Lib.decDigits u
theorem digs_step {u : Nat} (h : 0 < u) : digs u = digs (u / 10) ++ [UInt8.ofNat (48 + u % 10)] := by
  unfold digs
  rw [if_neg (by omega)]
  by_cases h1 : u < 10
  · rw [Lib.decDigits_one h1, if_pos (by omega), Nat.mod_eq_of_lt h1]; rfl
  · rw [Lib.decDigits, dif_neg h1, if_neg (by omega)]
theorem tmod_at {x : Int} {u : Nat} (h : x = (u : Int) ∨ x = -(u : Int)) : x.tmod 10 = ((u % 10 : Nat) : Int) ∨ x.tmod 10 = -((u % 10 : Nat) : Int) := by
  rcases h with rfl | rfl
  · left; rw [Int.tmod_eq_emod_of_nonneg (by omega)]; omega
  · right; rw [Int.neg_tmod, Int.tmod_eq_emod_of_nonneg (by omega)]; omega
theorem tdiv_at {x : Int} {u : Nat} (h : x = (u : Int) ∨ x = -(u : Int)) : x.tdiv 10 = ((u / 10 : Nat) : Int) ∨ x.tdiv 10 = -((u / 10 : Nat) : Int) := by
  rcases h with rfl | rfl
  · left; rw [Int.tdiv_eq_ediv_of_nonneg (by omega)]; omega
  · right; rw [Int.neg_tdiv, Int.tdiv_eq_ediv_of_nonneg (by omega)]; omega
theorem fmt_loop : ∀ (u : Nat) (x : Int) (m : Bool) (L : List UInt8), (x = (u : Int) ∨ x = -(u : Int)) → u ≤ 9223372036854775808 → L.length + (digs u).length ≤ 100 →
    Ev (fun k => spec_FormatInt.l0 k x m ⟨L.toArray⟩) ⟨((if m = true then [45] else []) ++ (digs u ++ L)).toArray⟩ := by
  intro u
  induction u using Nat.strongRecOn with
  | _ u ih =>
    intro x m L hx hu hl
    by_cases h0 : u = 0
    · subst h0
      have hx0 : x = 0 := by omega
      subst hx0
      refine ⟨1, fun k hk => ?_⟩
      obtain ⟨k, rfl⟩ : ∃ j, k = j + 1 := ⟨k - 1, by omega⟩
      have hsz := mk_size L
      simp only [spec_FormatInt.l0]
      rw [if_pos trivial]
      cases m with
      | true =>
        rw [if_pos rfl, if_pos (by rw [hsz]; omega)]
        exact congrArg some (mk_append [45] L)
      | false => rfl
    · have hd : u % 10 < 10 := by omega
      have hst := digs_step (u := u) (by omega)
      have hq := tdiv_at hx
      have hqw : wrap64 (x.tdiv 10) = x.tdiv 10 := wrap_id (by omega) (by omega)
      obtain ⟨K, hK⟩ := ih (u / 10) (by omega) (x.tdiv 10) m (UInt8.ofNat (48 + u % 10) :: L) hq (by omega) (by rw [hst] at hl; simp at hl ⊢; omega)
      refine ⟨K + 1, fun k hk => ?_⟩
      obtain ⟨k, rfl⟩ : ∃ j, k = j + 1 := ⟨k - 1, by omega⟩
      have e : spec_FormatInt.l0 k (x.tdiv 10) m ⟨(UInt8.ofNat (48 + u % 10) :: L).toArray⟩ = some _ := hK k (by omega)
      have happ : strOfNums [48 + ((u % 10 : Nat) : Int)] ++ ⟨L.toArray⟩ = ⟨(UInt8.ofNat (48 + u % 10) :: L).toArray⟩ := by
        rw [str_one hd, mk_append]; rfl
      have hsz : (strOfNums [48 + ((u % 10 : Nat) : Int)]).size + (⟨L.toArray⟩ : ByteArray).size ≤ 9223372036854775807 := by
        rw [str_one hd, mk_size, mk_size]; simp; omega
      have hfin : (if m = true then [45] else []) ++ (digs (u / 10) ++ (UInt8.ofNat (48 + u % 10) :: L)) = (if m = true then [45] else []) ++ (digs u ++ L) := by
        rw [hst]; simp
      rw [hfin] at e
      have go : ∀ y : Int, y = ((u % 10 : Nat) : Int) → ((spec_l01Figure.f y).bind fun t => ((some (([t] : List Int) : List Int)).bind fun z => (if (strOfNums z).size + (⟨L.toArray⟩ : ByteArray).size ≤ 9223372036854775807 then spec_FormatInt.l0 k (wrap64 (Int.tdiv x 10)) m ((strOfNums z) ++ ⟨L.toArray⟩) else none))) = some ⟨((if m = true then [45] else []) ++ (digs u ++ L)).toArray⟩ := by
        intro y hy
        rw [hy, figure_val (by omega) (by omega), Option.bind_some, Option.bind_some, if_pos hsz, happ, hqw, e]
      show spec_FormatInt.l0 (k + 1) x m ⟨L.toArray⟩ = some _
      simp only [spec_FormatInt.l0]
      rw [if_neg (by omega)]
      rcases tmod_at hx with ht | ht
      · rw [if_neg (by omega)]
        exact go _ ht
      · by_cases hz : x.tmod 10 < 0
        · rw [if_pos hz]
          exact go _ (by rw [wrap_id (by omega) (by omega)]; omega)
        · rw [if_neg hz]
          exact go _ (by omega)
theorem specFmt_ev {n : Int} (h0 : -9223372036854775808 ≤ n) (h1 : n ≤ 9223372036854775807) : Ev (fun k => spec_FormatInt.f k n) ⟨(Lib.itoa n).toArray⟩ := by
  by_cases hz : n = 0
  · subst hz
    refine Ev.congr (fun k => ?_) (ev_some _)
    unfold spec_FormatInt.f
    rw [if_pos rfl, itoa_pos (by omega), Lib.decDigits_one (by decide)]
    rfl
  · have hl : (digs n.natAbs).length ≤ 19 := by
      unfold digs
      rw [if_neg (by omega)]
      exact digits_len _ 19 (by omega) (by omega)
    have h := fmt_loop n.natAbs n (decide (n < 0)) [] (by omega) (by omega) (by simp; omega)
    have e : (if decide (n < 0) = true then [45] else []) ++ (digs n.natAbs ++ []) = Lib.itoa n := by
      have hd : digs n.natAbs = Lib.decDigits n.natAbs := by unfold digs; rw [if_neg (by omega)]
      unfold Lib.itoa
      rw [hd, List.append_nil]
      by_cases hn : n < 0
      · rw [if_pos (by simpa using hn), if_pos hn]; rfl
      · have : n.natAbs = n.toNat := by omega
        rw [if_neg (by simpa using hn), if_neg hn, this]; rfl
    rw [e] at h
    refine Ev.congr (fun k => ?_) h
    unfold spec_FormatInt.f
    rw [if_neg hz]
end Go.Proofs.YtionemdnfhcfpaaDoor.HS
/- The fields of a line, as the program and as the reference tell them. No condition. -/
set_option linter.unusedVariables false
set_option linter.unusedSimpArgs false
namespace Go.Proofs.YtionemdnfhcfpaaDoor.HS
open Go Go.RowKit Go.Proofs.YtionemdnfhcfpaaDoorW.PrintWords Go.Proofs.YtionemdnfhcfpaaDoorW.PrintLast Go.Proofs.YtionemdnfhcfpaaDoor.Aid

def mkB (l : List UInt8) : ByteArray := ⟨l.toArray⟩
theorem mkB_data (s : ByteArray) : mkB s.data.toList = s := by unfold mkB; cases s; simp
theorem mkB_list (l : List UInt8) : (mkB l).data.toList = l := by unfold mkB; simp
theorem mkB_size (l : List UInt8) : (mkB l).size = l.length := by simp [mkB, ByteArray.size]
theorem mkB_inj {a b : List UInt8} (h : mkB a = mkB b) : a = b := by rw [← mkB_list a, h, mkB_list]
theorem size_list (s : ByteArray) : s.size = s.data.toList.length := Array.length_toList.symm
theorem bt_list {s : ByteArray} {n : Nat} {c : UInt8} (h : s.data.toList[n]? = some c) : bt s (n : Int) = (c.toNat : Int) := by
  obtain ⟨hn, hc⟩ := List.getElem?_eq_some_iff.1 h
  have hs : n < s.size := by rw [size_list]; exact hn
  unfold bt
  rw [dif_pos (by simpa using hs)]
  congr 2
/-- What is left of the fields: those that are there, the one that is being read, the rest. -/
def restF (out : List (List UInt8)) (cur l : List UInt8) : List ByteArray × Bool :=
  if l.all okC = true then (if (out ++ Lib.fieldsGo cur l).length ≤ 24 then ((out ++ Lib.fieldsGo cur l).map mkB, true) else ([], false)) else ([], false)
theorem fin_ev (a : ByteArray) (out : List (List UInt8)) (b : Int) {i : Int} (hi : (a.size : Int) < i) : Ev (fun k => spec_SplitFields.l0 k a (out.map mkB) b i) (if out.length ≤ 24 then (out.map mkB, true) else ([], false)) := by
  refine ⟨1, fun k hk => ?_⟩
  obtain ⟨k, rfl⟩ : ∃ j, k = j + 1 := ⟨k - 1, by omega⟩
  show spec_SplitFields.l0 (k + 1) a (out.map mkB) b i = some _
  simp only [spec_SplitFields.l0, List.length_map]
  rw [if_neg (by omega)]
  by_cases h : out.length ≤ 24
  · rw [if_neg (by omega), if_pos h]
  · rw [if_pos (by omega), if_neg h]
theorem split_ev (a : ByteArray) (ha : a.size ≤ 600) : ∀ (d i b : Nat) (out : List (List UInt8)), a.size - i = d → i ≤ a.size → b ≤ i → out.length ≤ i →
    Ev (fun k => spec_SplitFields.l0 k a (out.map mkB) (b : Int) (i : Int)) (restF out ((a.data.toList.drop b).take (i - b)) (a.data.toList.drop i)) := by
  have hL := size_list a
  have hext : ∀ b i : Nat, i ≤ a.size → a.extract b i = mkB ((a.data.toList.drop b).take (i - b)) := by
    intro b i hi
    exact Lib.extract_eq a b i
  intro d
  induction d with
  | zero =>
    intro i b out hd hi hb ho
    obtain rfl : i = a.size := by omega
    have hdrop : a.data.toList.drop a.size = [] := by rw [hL]; exact List.drop_length
    rw [hdrop]
    have hw : wrap64 ((a.size : Int) + 1) = (a.size : Int) + 1 := wrap_id (by omega) (by omega)
    by_cases hbi : b < a.size
    · have hne : ((a.data.toList.drop b).take (a.size - b)).isEmpty = false := by
        rw [List.isEmpty_eq_false_iff]
        intro e
        have := congrArg List.length e
        simp at this
        omega
      have hr : restF out ((a.data.toList.drop b).take (a.size - b)) [] = (if (out ++ [(a.data.toList.drop b).take (a.size - b)]).length ≤ 24 then ((out ++ [(a.data.toList.drop b).take (a.size - b)]).map mkB, true) else ([], false)) := by
        have hg : Lib.fieldsGo ((a.data.toList.drop b).take (a.size - b)) [] = [(a.data.toList.drop b).take (a.size - b)] := by
          unfold Lib.fieldsGo
          rw [hne]; rfl
        unfold restF
        rw [hg, if_pos (show ([] : List UInt8).all okC = true from rfl)]
      rw [hr]
      obtain ⟨K, hK⟩ := fin_ev a (out ++ [(a.data.toList.drop b).take (a.size - b)]) ((a.size : Int) + 1) (i := (a.size : Int) + 1) (by omega)
      refine ⟨K + 3, fun k hk => ?_⟩
      obtain ⟨k, rfl⟩ : ∃ j, k = j + 3 := ⟨k - 3, by omega⟩
      have e := hK k (by omega)
      simp only [List.map_append, List.map_cons, List.map_nil] at e
      show spec_SplitFields.l0 (k + 3) a (out.map mkB) (b : Int) (a.size : Int) = some _
      simp only [spec_SplitFields.l0, spec_SplitFields.j1, spec_SplitFields.j2, List.length_map, hw, Int.toNat_natCast, hext b a.size (Nat.le_refl _)]
      rw [if_pos (by omega), if_neg (by omega), if_neg (by decide), if_neg (by omega), if_neg (by decide), if_pos (by omega), if_pos (by omega), if_pos (by omega), if_pos (by omega), if_pos (by omega), e]
      simp
    · obtain rfl : b = a.size := by omega
      have hr : restF out ((a.data.toList.drop a.size).take (a.size - a.size)) [] = (if out.length ≤ 24 then (out.map mkB, true) else ([], false)) := by
        unfold restF
        simp [Lib.fieldsGo]
      rw [hr]
      obtain ⟨K, hK⟩ := fin_ev a out ((a.size : Int) + 1) (i := (a.size : Int) + 1) (by omega)
      refine ⟨K + 3, fun k hk => ?_⟩
      obtain ⟨k, rfl⟩ : ∃ j, k = j + 3 := ⟨k - 3, by omega⟩
      have e : spec_SplitFields.l0 k a (out.map mkB) ((a.size : Int) + 1) ((a.size : Int) + 1) = some _ := hK k (by omega)
      show spec_SplitFields.l0 (k + 3) a (out.map mkB) (a.size : Int) (a.size : Int) = some _
      simp only [spec_SplitFields.l0, spec_SplitFields.j1, spec_SplitFields.j2, hw]
      rw [if_pos (by omega), if_neg (by omega), if_neg (by decide), if_neg (by omega), if_neg (by decide), if_neg (by omega), e]
  | succ d ih =>
    intro i b out hd hi hb ho
    have hlt : i < a.size := by omega
    obtain ⟨c, hc⟩ : ∃ c, a.data.toList[i]? = some c := ⟨_, List.getElem?_eq_getElem (by omega)⟩
    have hbt := bt_list hc
    have hdrop : a.data.toList.drop i = c :: a.data.toList.drop (i + 1) := by
      rw [List.drop_eq_getElem_cons (by omega)]
      congr 1
      exact (List.getElem?_eq_some_iff.1 hc).2
    have hw : wrap64 ((i : Int) + 1) = ((i + 1 : Nat) : Int) := wrap_succ hlt (by omega)
    rw [hdrop]
    by_cases hok : okC c = true
    · have hok' := of_decide_eq_true hok
      have hsp := isSp_ok hok
      have hall : ∀ l : List UInt8, (c :: l).all okC = l.all okC := fun l => by rw [List.all_cons, hok, Bool.true_and]
      have hbad : ∀ k, spec_SplitFields.l0 (k + 3) a (out.map mkB) (b : Int) (i : Int) = spec_SplitFields.j2 (k + 1) a (out.map mkB) (b : Int) (i : Int) ((c.toNat : Int) != 32) := fun k => by
        simp only [spec_SplitFields.l0, spec_SplitFields.j1, hbt]
        rw [if_pos (by omega), if_pos (by omega), if_pos (by omega), if_neg (by omega), if_neg (by simp; omega), if_pos (by omega), if_pos (by omega)]
      by_cases h32 : c.toNat = 32
      · have hs : Lib.isSp c = true := by rw [hsp]; simpa using h32
        by_cases hbi : b < i
        · have hne : (a.data.toList.drop b).take (i - b) ≠ [] := by
            intro e
            have := congrArg List.length e
            simp at this
            omega
          have hr : restF out ((a.data.toList.drop b).take (i - b)) (c :: a.data.toList.drop (i + 1)) = restF (out ++ [(a.data.toList.drop b).take (i - b)]) ((a.data.toList.drop (i + 1)).take (i + 1 - (i + 1))) (a.data.toList.drop (i + 1)) := by
            unfold restF
            rw [hall, Lib.fieldsGo_end _ _ _ hs hne]
            simp
          rw [hr]
          obtain ⟨K, hK⟩ := ih (i + 1) (i + 1) (out ++ [(a.data.toList.drop b).take (i - b)]) (by omega) (by omega) (Nat.le_refl _) (by simp; omega)
          refine ⟨K + 3, fun k hk => ?_⟩
          obtain ⟨k, rfl⟩ : ∃ j, k = j + 3 := ⟨k - 3, by omega⟩
          have e := hK k (by omega)
          simp only [List.map_append, List.map_cons, List.map_nil] at e
          show spec_SplitFields.l0 (k + 3) a (out.map mkB) (b : Int) (i : Int) = some _
          rw [hbad]
          simp only [spec_SplitFields.j2, List.length_map, hw, Int.toNat_natCast, hext b i hi]
          rw [if_neg (by simp; omega), if_pos (by omega), if_pos (by omega), if_pos (by omega), if_pos (by omega), if_pos (by omega)]
          exact e
        · obtain rfl : b = i := by omega
          have hr : restF out ((a.data.toList.drop b).take (b - b)) (c :: a.data.toList.drop (b + 1)) = restF out ((a.data.toList.drop (b + 1)).take (b + 1 - (b + 1))) (a.data.toList.drop (b + 1)) := by
            unfold restF
            rw [hall, Nat.sub_self, Nat.sub_self, List.take_zero, List.take_zero, Lib.fieldsGo_sp _ _ hs]
          rw [hr]
          obtain ⟨K, hK⟩ := ih (b + 1) (b + 1) out (by omega) (by omega) (Nat.le_refl _) (by omega)
          refine ⟨K + 3, fun k hk => ?_⟩
          obtain ⟨k, rfl⟩ : ∃ j, k = j + 3 := ⟨k - 3, by omega⟩
          have e := hK k (by omega)
          show spec_SplitFields.l0 (k + 3) a (out.map mkB) (b : Int) (b : Int) = some _
          rw [hbad]
          simp only [spec_SplitFields.j2, hw]
          rw [if_neg (by simp; omega), if_neg (by omega)]
          exact e
      · have hs : Lib.isSp c = false := by rw [hsp]; simpa using h32
        have htk : (a.data.toList.drop b).take (i + 1 - b) = (a.data.toList.drop b).take (i - b) ++ [c] := by
          rw [show i + 1 - b = (i - b) + 1 by omega, List.take_add_one, List.getElem?_drop, show b + (i - b) = i by omega, hc]; rfl
        have hr : restF out ((a.data.toList.drop b).take (i - b)) (c :: a.data.toList.drop (i + 1)) = restF out ((a.data.toList.drop b).take (i + 1 - b)) (a.data.toList.drop (i + 1)) := by
          unfold restF
          rw [hall, Lib.fieldsGo_more _ _ _ hs, htk]
        rw [hr]
        obtain ⟨K, hK⟩ := ih (i + 1) b out (by omega) (by omega) (by omega) (by omega)
        refine ⟨K + 3, fun k hk => ?_⟩
        obtain ⟨k, rfl⟩ : ∃ j, k = j + 3 := ⟨k - 3, by omega⟩
        have e := hK k (by omega)
        show spec_SplitFields.l0 (k + 3) a (out.map mkB) (b : Int) (i : Int) = some _
        rw [hbad]
        simp only [spec_SplitFields.j2, hw]
        rw [if_pos (by simp; omega)]
        exact e
    · have hr : restF out ((a.data.toList.drop b).take (i - b)) (c :: a.data.toList.drop (i + 1)) = ([], false) := by
        unfold restF
        rw [List.all_cons]
        simp [hok]
      rw [hr]
      have hok' : ¬ (32 ≤ c.toNat ∧ c.toNat ≤ 126) := fun h => hok (decide_eq_true h)
      refine ⟨2, fun k hk => ?_⟩
      obtain ⟨k, rfl⟩ : ∃ j, k = j + 2 := ⟨k - 2, by omega⟩
      show spec_SplitFields.l0 (k + 2) a (out.map mkB) (b : Int) (i : Int) = some _
      simp only [spec_SplitFields.l0, spec_SplitFields.j1, hbt]
      rw [if_pos (by omega), if_pos (by omega), if_pos (by omega)]
      by_cases h1 : (c.toNat : Int) < 32
      · rw [if_pos h1, if_pos trivial]
      · rw [if_neg h1, if_pos (by simp; omega)]
theorem splitB_small {a : ByteArray} (h : a.size ≤ 600) : splitB a.data.toList = if a.data.toList.all okC = true then (if (Lib.fields a.data.toList).length ≤ 24 then (Lib.fields a.data.toList, true) else ([], false)) else ([], false) := by
  have hL := size_list a
  unfold splitB
  by_cases h1 : a.data.toList.all okC = true
  · rw [if_pos ⟨by omega, h1⟩, if_pos h1]
  · rw [if_neg (fun x => h1 x.2), if_neg h1]
theorem specSplit_ev (a : ByteArray) : Ev (fun k => spec_SplitFields.f k a) ((splitB a.data.toList).1.map mkB, (splitB a.data.toList).2) := by
  have hL := size_list a
  by_cases h : a.size ≤ 600
  · have hr : restF [] ((a.data.toList.drop 0).take (0 - 0)) (a.data.toList.drop 0) = ((splitB a.data.toList).1.map mkB, (splitB a.data.toList).2) := by
      rw [splitB_small h, Nat.sub_self, List.take_zero, List.drop_zero]
      unfold restF Lib.fields
      rw [List.nil_append]
      by_cases h1 : a.data.toList.all okC = true
      · rw [if_pos h1, if_pos h1]
        split <;> rfl
      · rw [if_neg h1, if_neg h1]; rfl
    rw [← hr]
    refine Ev.congr (fun k => ?_) (split_ev a h a.size 0 0 [] (by omega) (by omega) (Nat.le_refl _) (by simp))
    unfold spec_SplitFields.f
    rw [Option.bind_some, if_neg (by omega)]
    rfl
  · refine Ev.congr (fun k => ?_) (ev_some _)
    unfold spec_SplitFields.f splitB
    rw [Option.bind_some, if_pos (by omega), if_neg (by omega)]
    rfl
theorem implSplit_val (a : ByteArray) : impl_SplitFields.f a = some ((splitB a.data.toList).1.map mkB, (splitB a.data.toList).2) := by
  have hL := size_list a
  have hbad : a.data.toList.any (fun b => impl_SplitFields.bad b.toNat) = !(a.data.toList.all okC) := by
    induction a.data.toList with
    | nil => rfl
    | cons b l ih =>
      have hb : impl_SplitFields.bad (b.toNat : Int) = !(okC b) := by
        unfold impl_SplitFields.bad okC
        rw [Bool.eq_iff_iff]
        simp
        omega
      rw [List.any_cons, List.all_cons, ih, hb, Bool.not_and]
  unfold impl_SplitFields.f
  by_cases h : a.size ≤ 600
  · rw [if_neg (by omega), hbad, splitB_small h]
    by_cases h1 : a.data.toList.all okC = true
    · rw [if_pos h1, h1, if_neg (by decide)]
      by_cases h2 : (Lib.fields a.data.toList).length ≤ 24
      · rw [if_neg (by omega), if_pos h2]; rfl
      · rw [if_pos (by omega), if_neg h2]; rfl
    · rw [if_neg h1, if_pos (by simpa using h1)]; rfl
  · have hs2 : splitB a.data.toList = ([], false) := by
      unfold splitB
      rw [if_neg (by omega)]
    rw [if_pos (by omega), hs2]; rfl
end Go.Proofs.YtionemdnfhcfpaaDoor.HS
/- The numbers that are parsed from decimal texts, as the program and as the reference tell them. No condition but a text that memory holds. -/
set_option linter.unusedVariables false
set_option linter.unusedSimpArgs false
namespace Go.Proofs.YtionemdnfhcfpaaDoor.HS
open Go Go.RowKit Go.Proofs.YtionemdnfhcfpaaDoorW.PrintWords Go.Proofs.YtionemdnfhcfpaaDoorW.PrintLast Go.Proofs.YtionemdnfhcfpaaDoor.Aid

theorem implUint_val {a : ByteArray} (ha : a.size ≤ 281474976710656) : impl_ParseUint.f a = some (puB a.data.toList) := by
  unfold impl_ParseUint.f
  rw [if_pos ha]
  congr 1
  unfold impl_ParseUint.v
  rcases puB_cases a.data.toList with ⟨n, h0, h1, e, hp⟩ | ⟨hp, hn⟩
  · rw [hp, e, atoiAll_itoa h0 h1]
    simp only
    rw [if_pos ⟨h0, h1⟩, if_pos trivial]
  · rw [hp]
    cases Lib.atoiAll a.data.toList with
    | range => rfl
    | ok v =>
      simp only
      by_cases hv : 0 ≤ v ∧ v ≤ 1000000000
      · rw [if_pos hv, if_neg (fun e => hn v hv.1 hv.2 e.symm)]
      · rw [if_neg hv]
    | _ => rfl
def uintFin (L : List UInt8) : Option Nat → Int × Bool
  | some m => if m ≤ 1000000000 ∧ Lib.itoa (m : Int) = L then ((m : Int), true) else (0, false)
  | none => (0, false)
theorem uintFin_puB (L : List UInt8) : uintFin L (Lib.decFrom 0 L) = puB L := by
  unfold puB uintFin
  cases Lib.decFrom 0 L <;> rfl
theorem uint_ev (a : ByteArray) (ha : a.size ≤ 10) : ∀ (d i acc p : Nat), a.size - i = d → i ≤ a.size → p = 10 ^ i → acc < p → Ev (fun k => spec_ParseUint.l0 k a (acc : Int) (i : Int)) (uintFin a.data.toList (Lib.decFrom acc (a.data.toList.drop i))) := by
  have hL := size_list a
  have hpow : ∀ i : Nat, i ≤ 10 → 10 ^ i ≤ 10000000000 := fun i hi => Nat.le_trans (Nat.pow_le_pow_right (by decide) hi) (by decide)
  intro d
  induction d with
  | zero =>
    intro i acc p hd hi hp hacc
    obtain rfl : i = a.size := by omega
    have hpb : p ≤ 10000000000 := hp ▸ hpow a.size ha
    clear hp hpow
    have hdrop : a.data.toList.drop a.size = [] := by rw [hL]; exact List.drop_length
    rw [hdrop]
    by_cases hbig : acc ≤ 1000000000
    · obtain ⟨K, hK⟩ := specFmt_ev (n := (acc : Int)) (by omega) (by omega)
      refine ⟨K + 1, fun k hk => ?_⟩
      obtain ⟨k, rfl⟩ : ∃ j, k = j + 1 := ⟨k - 1, by omega⟩
      have e : spec_FormatInt.f k (acc : Int) = some ⟨(Lib.itoa (acc : Int)).toArray⟩ := hK k (by omega)
      show spec_ParseUint.l0 (k + 1) a (acc : Int) (a.size : Int) = some _
      simp only [spec_ParseUint.l0]
      rw [if_neg (by omega), if_neg (by omega), e, Option.bind_some, toList_data, toList_data]
      simp only [uintFin, Lib.decFrom]
      by_cases h : Lib.itoa (acc : Int) = a.data.toList
      · rw [if_pos h, if_pos ⟨hbig, h⟩]
      · rw [if_neg h, if_neg (fun x => h x.2)]
    · refine ⟨1, fun k hk => ?_⟩
      obtain ⟨k, rfl⟩ : ∃ j, k = j + 1 := ⟨k - 1, by omega⟩
      show spec_ParseUint.l0 (k + 1) a (acc : Int) (a.size : Int) = some _
      simp only [spec_ParseUint.l0]
      rw [if_neg (by omega), if_pos (by omega)]
      simp only [uintFin, Lib.decFrom]
      rw [if_neg (fun x => hbig x.1)]
  | succ d ih =>
    intro i acc p hd hi hp hacc
    have hlt : i < a.size := by omega
    have hpb : p ≤ 10000000000 := hp ▸ hpow i (by omega)
    have hp1 : p * 10 = 10 ^ (i + 1) := by rw [Nat.pow_succ, hp]
    clear hp hpow
    obtain ⟨c, hc⟩ : ∃ c, a.data.toList[i]? = some c := ⟨_, List.getElem?_eq_getElem (by omega)⟩
    have hbt := bt_list hc
    have hc255 : c.toNat < 256 := c.toNat_lt
    have hdrop : a.data.toList.drop i = c :: a.data.toList.drop (i + 1) := by
      rw [List.drop_eq_getElem_cons (by omega)]
      congr 1
      exact (List.getElem?_eq_some_iff.1 hc).2
    rw [hdrop, decFrom_cons]
    by_cases hdig : 48 ≤ c.toNat ∧ c.toNat ≤ 57
    · have hv : Lib.digitVal c = some (c.toNat - 48) := by unfold Lib.digitVal; rw [if_pos hdig]
      rw [hv]
      obtain ⟨K, hK⟩ := ih (i + 1) (acc * 10 + (c.toNat - 48)) (p * 10) (by omega) (by omega) hp1 (by omega)
      clear hp1 ih
      refine ⟨K + 1, fun k hk => ?_⟩
      obtain ⟨k, rfl⟩ : ∃ j, k = j + 1 := ⟨k - 1, by omega⟩
      have e : spec_ParseUint.l0 k a ((acc * 10 + (c.toNat - 48) : Nat) : Int) ((i + 1 : Nat) : Int) = some _ := hK k (by omega)
      show spec_ParseUint.l0 (k + 1) a (acc : Int) (i : Int) = some _
      simp only [spec_ParseUint.l0, hbt]
      have k1 : -9223372036854775808 ≤ 10 * (acc : Int) ∧ 10 * (acc : Int) ≤ 9223372036854775807 := by omega
      have k2 : -9223372036854775808 ≤ (c.toNat : Int) ∧ (c.toNat : Int) ≤ 9223372036854775807 := by omega
      have k3 : -9223372036854775808 ≤ 10 * (acc : Int) + (c.toNat : Int) ∧ 10 * (acc : Int) + (c.toNat : Int) ≤ 9223372036854775807 := by omega
      have k4 : -9223372036854775808 ≤ 10 * (acc : Int) + (c.toNat : Int) - 48 ∧ 10 * (acc : Int) + (c.toNat : Int) - 48 ≤ 9223372036854775807 := by omega
      have k5 : 10 * (acc : Int) + (c.toNat : Int) - 48 = ((acc * 10 + (c.toNat - 48) : Nat) : Int) := by omega
      have k6 : (i : Int) < (a.size : Int) := by omega
      have k7 : (0 : Int) ≤ (i : Int) := by omega
      have k8 : ¬ (c.toNat : Int) < 48 := by omega
      have k9 : ¬ (c.toNat : Int) > 57 := by omega
      have k10 := wrap_succ (n := i) (N := a.size) hlt (by omega)
      rw [if_pos k6, if_pos k7, if_neg k8, if_neg k9, wrap_id k1.1 k1.2, wrap_id k2.1 k2.2, wrap_id k3.1 k3.2, wrap_id k4.1 k4.2, k5, k10]
      exact e
    · have hv : Lib.digitVal c = none := by unfold Lib.digitVal; rw [if_neg hdig]
      rw [hv]
      refine ⟨1, fun k hk => ?_⟩
      obtain ⟨k, rfl⟩ : ∃ j, k = j + 1 := ⟨k - 1, by omega⟩
      show spec_ParseUint.l0 (k + 1) a (acc : Int) (i : Int) = some (0, false)
      simp only [spec_ParseUint.l0, hbt]
      rw [if_pos (by omega), if_pos (by omega)]
      by_cases h1 : (c.toNat : Int) < 48
      · rw [if_pos h1]
      · rw [if_neg h1, if_pos (by omega)]
theorem specUint_ev (a : ByteArray) : Ev (fun k => spec_ParseUint.f k a) (puB a.data.toList) := by
  have hL := size_list a
  by_cases h : a.size ≤ 10
  · have he := uint_ev a h a.size 0 0 1 (by omega) (by omega) rfl (by decide)
    rw [List.drop_zero, uintFin_puB] at he
    refine Ev.congr (fun k => ?_) he
    unfold spec_ParseUint.f
    rw [if_neg (by omega)]
    rfl
  · have hp : puB a.data.toList = (0, false) := by
      rcases puB_cases a.data.toList with ⟨n, h0, h1, e, _⟩ | ⟨hp, _⟩
      · have := itoa_len h0 h1
        rw [← e] at this
        omega
      · exact hp
    rw [hp]
    refine Ev.congr (fun k => ?_) (ev_some _)
    unfold spec_ParseUint.f
    rw [if_pos (by omega)]
end Go.Proofs.YtionemdnfhcfpaaDoor.HS
/- Whether an instruction is valid, as the program's table tells it. No condition. -/
set_option linter.unusedVariables false
set_option linter.unusedSimpArgs false
namespace Go.Proofs.YtionemdnfhcfpaaDoor.HS
open Go Go.RowKit Go.Proofs.YtionemdnfhcfpaaDoorW.PrintWords Go.Proofs.YtionemdnfhcfpaaDoorW.PrintLast Go.Proofs.YtionemdnfhcfpaaDoor.Aid

def inB (n lo hi : Int) : Bool := decide (lo ≤ n) && decide (n ≤ hi)
def insOkB (op a b c s : Int) : Bool :=
  inB s 0 32 && (if op = 0 ∨ op = 12 ∨ op = 16 then a == 0 && b == 0 && c == 0
    else if op = 1 then inB a 0 3 && inB b 0 65535 && c == 0
    else if op = 2 ∨ op = 13 ∨ op = 14 ∨ op = 15 then inB a 0 3 && inB b 0 3 && c == 0
    else if op = 8 then inB a 0 3 && b == 0 && c == 0
    else if op = 10 then inB a 0 3 && inB b 0 s && c == 0
    else if op = 11 then a == 0 && inB b 0 s && c == 0
    else if 3 ≤ op ∧ op ≤ 9 then inB a 0 3 && inB b 0 3 && inB c 0 3
    else false)
theorem within_val (a b c : Int) : impl_within.f a b c = some (inB a b c) := by
  unfold impl_within.f inB
  by_cases h : b ≤ a
  · rw [if_pos (show a ≥ b from h)]; simp [h]
  · rw [if_neg (show ¬ a ≥ b from h)]; simp [h]
theorem isReg_val (a : Int) : impl_isReg.f a = some (inB a 0 3) := by unfold impl_isReg.f; rw [within_val]; rfl
theorem isWord_val (a : Int) : impl_IsWord.f a = some (inB a 0 65535) := by unfold impl_IsWord.f; rw [within_val]; rfl
def fieldB (form n s : Int) : Bool := if form = 82 then inB n 0 3 else if form = 87 then inB n 0 65535 else if form = 84 then inB n 0 s else n == 0
theorem isField_val (form n s : Int) : impl_isField.f form n s = some (fieldB form n s) := by
  unfold impl_isField.f fieldB
  rw [isReg_val, isWord_val, within_val]
  by_cases h : form = 82
  · simp [h]
  · by_cases h1 : form = 87
    · simp [h1]
    · by_cases h2 : form = 84 <;> simp [h, h1, h2]
theorem form_val (op : Int) (x y z : UInt8) (f : ByteArray) (hf : impl_formOf.f op = some f) (he : f = ⟨#[x, y, z]⟩) (a b c s : Int) :
    impl_InsOk.f op a b c s = some (inB s 0 32 && (fieldB (x.toNat : Int) a s && (fieldB (y.toNat : Int) b s && fieldB (z.toNat : Int) c s))) := by
  subst he
  unfold impl_InsOk.f
  rw [hf, Option.bind_some, if_neg (by rw [toList_data]; simp), within_val, Option.bind_some]
  cases inB s 0 32
  · rfl
  · rw [if_pos rfl, if_pos (show (0 : Int) < (((⟨#[x, y, z]⟩ : ByteArray).size : Nat) : Int) from by show (0 : Int) < ((3 : Nat) : Int); decide), show bt ⟨#[x, y, z]⟩ 0 = (x.toNat : Int) from rfl, isField_val, Option.bind_some]
    cases fieldB (x.toNat : Int) a s
    · rfl
    · rw [if_pos rfl, if_pos (show (1 : Int) < (((⟨#[x, y, z]⟩ : ByteArray).size : Nat) : Int) from by show (1 : Int) < ((3 : Nat) : Int); decide), show bt ⟨#[x, y, z]⟩ 1 = (y.toNat : Int) from rfl, isField_val, Option.bind_some]
      cases fieldB (y.toNat : Int) b s
      · rfl
      · rw [if_pos rfl, if_pos (show (2 : Int) < (((⟨#[x, y, z]⟩ : ByteArray).size : Nat) : Int) from by show (2 : Int) < ((3 : Nat) : Int); decide), show bt ⟨#[x, y, z]⟩ 2 = (z.toNat : Int) from rfl, isField_val, Option.bind_some]
        rfl
theorem insOk_val (op a b c s : Int) : impl_InsOk.f op a b c s = some (insOkB op a b c s) := by
  by_cases h : 0 ≤ op ∧ op ≤ 16
  · have hc : op = 0 ∨ op = 1 ∨ op = 2 ∨ op = 3 ∨ op = 4 ∨ op = 5 ∨ op = 6 ∨ op = 7 ∨ op = 8 ∨ op = 9 ∨ op = 10 ∨ op = 11 ∨ op = 12 ∨ op = 13 ∨ op = 14 ∨ op = 15 ∨ op = 16 := by omega
    rcases hc with rfl | rfl | rfl | rfl | rfl | rfl | rfl | rfl | rfl | rfl | rfl | rfl | rfl | rfl | rfl | rfl | rfl <;>
      (rw [form_val _ _ _ _ _ rfl rfl]; simp [insOkB, fieldB, Bool.and_assoc])
  · have hf : impl_formOf.f op = some ⟨#[]⟩ := by
      unfold impl_formOf.f
      rw [within_val, show inB op 0 16 = false by unfold inB; simp; omega]
      rfl
    have h0 : ¬ (op = 0 ∨ op = 12 ∨ op = 16) := by omega
    have h1 : ¬ op = 1 := by omega
    have h2 : ¬ (op = 2 ∨ op = 13 ∨ op = 14 ∨ op = 15) := by omega
    have h3 : ¬ op = 8 := by omega
    have h4 : ¬ op = 10 := by omega
    have h5 : ¬ op = 11 := by omega
    have h6 : ¬ (3 ≤ op ∧ op ≤ 9) := by omega
    unfold impl_InsOk.f insOkB
    rw [hf, Option.bind_some, if_pos (by rw [toList_data]), if_neg h0, if_neg h1, if_neg h2, if_neg h3, if_neg h4, if_neg h5, if_neg h6]
    simp
end Go.Proofs.YtionemdnfhcfpaaDoor.HS
/- Whether an instruction is valid, as the reference's cases tell it. No condition. -/
set_option linter.unusedVariables false
set_option linter.unusedSimpArgs false
namespace Go.Proofs.YtionemdnfhcfpaaDoor.HS
open Go Go.RowKit Go.Proofs.YtionemdnfhcfpaaDoorW.PrintWords Go.Proofs.YtionemdnfhcfpaaDoorW.PrintLast Go.Proofs.YtionemdnfhcfpaaDoor.Aid
theorem l01In_val (a b c : Int) : spec_l01In.f a b c = some (inB a b c) := by
  unfold spec_l01In.f inB
  by_cases h : b ≤ a
  · rw [if_pos (show a ≥ b from h)]; simp [h]
  · rw [if_neg (show ¬ a ≥ b from h)]; simp [h]
theorem l04Reg_val (a : Int) : spec_l04Reg.f a = some (inB a 0 3) := by unfold spec_l04Reg.f; rw [l01In_val]; rfl
theorem specIsWord_val (a : Int) : spec_IsWord.f a = some (inB a 0 65535) := by unfold spec_IsWord.f; rw [l01In_val]; rfl
theorem specInsOk_val (op a b c s : Int) (k : Nat) : spec_InsOk.f (k + 2) op a b c s = some (insOkB op a b c s) := by
  unfold spec_InsOk.f insOkB
  rw [l01In_val, Option.bind_some]
  cases inB s 0 32
  · rfl
  · rw [if_pos rfl]
    simp only [spec_InsOk.j0, spec_InsOk.j1, l01In_val, l04Reg_val, specIsWord_val, Option.bind_some, Bool.true_and]
    by_cases e0 : op = 0
    · subst e0; by_cases ha : a = 0 <;> by_cases hb : b = 0 <;> simp [ha, hb]
    by_cases e12 : op = 12
    · subst e12; by_cases ha : a = 0 <;> by_cases hb : b = 0 <;> simp [ha, hb]
    by_cases e16 : op = 16
    · subst e16; by_cases ha : a = 0 <;> by_cases hb : b = 0 <;> simp [ha, hb]
    by_cases e1 : op = 1
    · subst e1; cases inB a 0 3 <;> cases inB b 0 65535 <;> simp
    by_cases e2 : op = 2
    · subst e2; cases inB a 0 3 <;> cases inB b 0 3 <;> simp
    by_cases e13 : op = 13
    · subst e13; cases inB a 0 3 <;> cases inB b 0 3 <;> simp
    by_cases e14 : op = 14
    · subst e14; cases inB a 0 3 <;> cases inB b 0 3 <;> simp
    by_cases e15 : op = 15
    · subst e15; cases inB a 0 3 <;> cases inB b 0 3 <;> simp
    by_cases e8 : op = 8
    · subst e8; by_cases hb : b = 0 <;> cases inB a 0 3 <;> simp [hb]
    by_cases e10 : op = 10
    · subst e10; cases inB a 0 3 <;> cases inB b 0 s <;> simp
    by_cases e11 : op = 11
    · subst e11; by_cases ha : a = 0 <;> cases inB b 0 s <;> simp [ha]
    by_cases h39 : 3 ≤ op ∧ op ≤ 9
    · have : inB op 3 9 = true := by unfold inB; simp; omega
      cases inB a 0 3 <;> cases inB b 0 3 <;> simp [e0, e12, e16, e1, e2, e13, e14, e15, e8, e10, e11, this, h39]
    · have : inB op 3 9 = false := by unfold inB; simp; omega
      simp [e0, e12, e16, e1, e2, e13, e14, e15, e8, e10, e11, this, h39]
end Go.Proofs.YtionemdnfhcfpaaDoor.HS
/- The text of an instruction, as the program writes it. No condition but fields that an int holds. -/
set_option linter.unusedVariables false
set_option linter.unusedSimpArgs false
namespace Go.Proofs.YtionemdnfhcfpaaDoor.HS
open Go Go.RowKit Go.Proofs.YtionemdnfhcfpaaDoorW.PrintWords Go.Proofs.YtionemdnfhcfpaaDoorW.PrintLast Go.Proofs.YtionemdnfhcfpaaDoor.Aid

def namesT : List ByteArray := [⟨#[110, 111, 112]⟩, ⟨#[115, 101, 116]⟩, ⟨#[109, 111, 118, 101]⟩, ⟨#[97, 100, 100]⟩, ⟨#[115, 117, 98]⟩, ⟨#[109, 117, 108]⟩, ⟨#[120, 111, 114]⟩, ⟨#[108, 101, 115, 115]⟩, ⟨#[115, 101, 108, 102]⟩, ⟨#[112, 105, 99, 107]⟩, ⟨#[122, 101, 114, 111]⟩, ⟨#[106, 117, 109, 112]⟩, ⟨#[104, 97, 108, 116]⟩, ⟨#[108, 111, 97, 100]⟩, ⟨#[115, 116, 111, 114, 101]⟩, ⟨#[98, 117, 109, 112]⟩, ⟨#[98, 97, 114, 114, 105, 101, 114]⟩]
def nameT (op : Int) : ByteArray := rdOf ByteArray.empty namesT op
theorem inB16 {op : Int} (h0 : 0 ≤ op) (h1 : op ≤ 16) : inB op 0 16 = true := by unfold inB; simp [h0, h1]
theorem op_cases {op : Int} (h0 : 0 ≤ op) (h1 : op ≤ 16) : op = 0 ∨ op = 1 ∨ op = 2 ∨ op = 3 ∨ op = 4 ∨ op = 5 ∨ op = 6 ∨ op = 7 ∨ op = 8 ∨ op = 9 ∨ op = 10 ∨ op = 11 ∨ op = 12 ∨ op = 13 ∨ op = 14 ∨ op = 15 ∨ op = 16 := by omega
theorem opName_val {op : Int} (h0 : 0 ≤ op) (h1 : op ≤ 16) : impl_OpName.f op = some (nameT op) := by
  rcases op_cases h0 h1 with rfl | rfl | rfl | rfl | rfl | rfl | rfl | rfl | rfl | rfl | rfl | rfl | rfl | rfl | rfl | rfl | rfl <;> rfl
theorem specOpName_val {op : Int} (h0 : 0 ≤ op) (h1 : op ≤ 16) : spec_OpName.f op = some (nameT op) := by
  rcases op_cases h0 h1 with rfl | rfl | rfl | rfl | rfl | rfl | rfl | rfl | rfl | rfl | rfl | rfl | rfl | rfl | rfl | rfl | rfl <;> rfl
/-- Which fields an operation has, as bits. -/
def l06 (op : Int) : Int := if op = 0 ∨ op = 12 ∨ op = 16 then 0 else if op = 8 then 1 else if op = 11 then 2 else if op = 1 ∨ op = 2 ∨ op = 10 ∨ op = 13 ∨ op = 14 ∨ op = 15 then 3 else 7
theorem l06_val {op : Int} (h0 : 0 ≤ op) (h1 : op ≤ 16) (k : Nat) : spec_l06Fields.f (k + 1) op = some (l06 op) := by
  rcases op_cases h0 h1 with rfl | rfl | rfl | rfl | rfl | rfl | rfl | rfl | rfl | rfl | rfl | rfl | rfl | rfl | rfl | rfl | rfl <;> rfl
def flB (op : Int) (n : Nat) : Bool := l06 op = 7 || (l06 op = 3 && decide (n < 2)) || (l06 op = 1 && n == 0) || (l06 op = 2 && n == 1)
theorem flB_spec {op : Int} (h0 : 0 ≤ op) (h1 : op ≤ 16) {n : Nat} (hn : n < 3) : (Go.bits .and .i64 (shr .i64 (l06 op) (n : Int)) 1 = 1) ↔ flB op n = true := by
  have hc : n = 0 ∨ n = 1 ∨ n = 2 := by omega
  have h6 : l06 op = 0 ∨ l06 op = 1 ∨ l06 op = 2 ∨ l06 op = 3 ∨ l06 op = 7 := by
    unfold l06
    repeat' split
    all_goals simp
  unfold flB
  rcases h6 with h | h | h | h | h <;> rw [h] <;> rcases hc with rfl | rfl | rfl <;> decide +kernel
theorem formOf_val {op : Int} (h0 : 0 ≤ op) (h1 : op ≤ 16) : ∃ f : ByteArray, impl_formOf.f op = some f ∧ f.size = 3 ∧ ∀ n : Nat, n < 3 → ((bt f (n : Int) = 45) ↔ flB op n = false) := by
  have key : ∀ (f : ByteArray), impl_formOf.f op = some f → f.size = 3 → ((bt f ((0 : Nat) : Int) = 45) ↔ flB op 0 = false) → ((bt f ((1 : Nat) : Int) = 45) ↔ flB op 1 = false) → ((bt f ((2 : Nat) : Int) = 45) ↔ flB op 2 = false) →
      ∃ f : ByteArray, impl_formOf.f op = some f ∧ f.size = 3 ∧ ∀ n : Nat, n < 3 → ((bt f (n : Int) = 45) ↔ flB op n = false) := fun f hf hs a0 a1 a2 => ⟨f, hf, hs, fun n hn => by
    have hc : n = 0 ∨ n = 1 ∨ n = 2 := by omega
    rcases hc with rfl | rfl | rfl
    · exact a0
    · exact a1
    · exact a2⟩
  rcases op_cases h0 h1 with rfl | rfl | rfl | rfl | rfl | rfl | rfl | rfl | rfl | rfl | rfl | rfl | rfl | rfl | rfl | rfl | rfl <;>
    exact key _ rfl rfl (by decide +kernel) (by decide +kernel) (by decide +kernel)
/-- The text behind the name, field by field. -/
def partT (op : Int) (l : List Int) : Nat → List UInt8
  | 0 => (nameT op).data.toList
  | n + 1 => partT op l n ++ (if flB op n = true then 32 :: Lib.itoa (rd l (n : Int)) else [])
theorem name_len {op : Int} (h0 : 0 ≤ op) (h1 : op ≤ 16) : (nameT op).data.toList.length ≤ 7 := by
  rcases op_cases h0 h1 with rfl | rfl | rfl | rfl | rfl | rfl | rfl | rfl | rfl | rfl | rfl | rfl | rfl | rfl | rfl | rfl | rfl <;> decide +kernel
theorem itoa_len21 {n : Int} (h0 : -9223372036854775808 ≤ n) (h1 : n ≤ 9223372036854775807) : (Lib.itoa n).length ≤ 20 := by
  unfold Lib.itoa
  split
  · have := digits_len n.natAbs 19 (by omega) (by omega)
    simp; omega
  · have := digits_len n.toNat 19 (by omega) (by omega)
    omega
theorem part_len {op : Int} (h0 : 0 ≤ op) (h1 : op ≤ 16) {l : List Int} (hl : ∀ n : Nat, n < 3 → -9223372036854775808 ≤ rd l (n : Int) ∧ rd l (n : Int) ≤ 9223372036854775807) : ∀ n, n ≤ 3 → (partT op l n).length ≤ 7 + 21 * n
  | 0, _ => by have := name_len h0 h1; show (nameT op).data.toList.length ≤ _; omega
  | n + 1, hn => by
    have ih := part_len h0 h1 hl n (by omega)
    have hr := hl n (by omega)
    have := itoa_len21 hr.1 hr.2
    show (partT op l n ++ _).length ≤ _
    rw [List.length_append]
    split <;> simp <;> omega
theorem part_step (op : Int) (l : List Int) (n : Nat) (h : flB op n = true) : mkB (partT op l n) ++ ((⟨#[32]⟩ : ByteArray) ++ ⟨(Lib.itoa (rd l (n : Int))).toArray⟩) = mkB (partT op l (n + 1)) := by
  have e1 : (⟨#[32]⟩ : ByteArray) ++ ⟨(Lib.itoa (rd l (n : Int))).toArray⟩ = ⟨(32 :: Lib.itoa (rd l (n : Int))).toArray⟩ := mk_append [32] _
  rw [e1]
  show mkB (partT op l n) ++ mkB _ = mkB (partT op l n ++ _)
  rw [if_pos h]
  exact mk_append _ _
theorem part_skip (op : Int) (l : List Int) (n : Nat) (h : flB op n = false) : partT op l (n + 1) = partT op l n := by
  show partT op l n ++ _ = _
  rw [h, if_neg (by decide), List.append_nil]
theorem insOk_op {op a b c s : Int} (h : insOkB op a b c s = true) : 0 ≤ op ∧ op ≤ 16 := by
  refine Classical.byContradiction fun hn => ?_
  have h0 : ¬ (op = 0 ∨ op = 12 ∨ op = 16) := by omega
  have h1 : ¬ op = 1 := by omega
  have h2 : ¬ (op = 2 ∨ op = 13 ∨ op = 14 ∨ op = 15) := by omega
  have h3 : ¬ op = 8 := by omega
  have h4 : ¬ op = 10 := by omega
  have h5 : ¬ op = 11 := by omega
  have h6 : ¬ (3 ≤ op ∧ op ≤ 9) := by omega
  unfold insOkB at h
  rw [if_neg h0, if_neg h1, if_neg h2, if_neg h3, if_neg h4, if_neg h5, if_neg h6] at h
  simp at h
/-- The text of an instruction: none if it is not valid. -/
def textT (op a b c : Int) : List UInt8 := if insOkB op a b c 32 = true then partT op [a, b, c] 3 else []
theorem three {P : Int → Prop} {a b c : Int} (ha : P a) (hb : P b) (hc : P c) : ∀ n : Nat, n < 3 → P (rd [a, b, c] (n : Int)) := by
  intro n hn
  have h : n = 0 ∨ n = 1 ∨ n = 2 := by omega
  rcases h with rfl | rfl | rfl
  · exact ha
  · exact hb
  · exact hc
theorem formatIns_ev {op a b c : Int} (ha : -9223372036854775808 ≤ a ∧ a ≤ 9223372036854775807) (hb : -9223372036854775808 ≤ b ∧ b ≤ 9223372036854775807) (hc : -9223372036854775808 ≤ c ∧ c ≤ 9223372036854775807) :
    Ev (fun k => impl_FormatIns.f k op a b c) (mkB (textT op a b c)) := by
  cases hok : insOkB op a b c 32 with
  | false =>
    refine Ev.congr (fun k => ?_) (ev_some _)
    unfold impl_FormatIns.f textT
    rw [insOk_val, hok, Option.bind_some, if_neg (by decide), if_neg (by decide)]
    rfl
  | true =>
    obtain ⟨o0, o1⟩ := insOk_op hok
    have hr := three (P := fun x => -9223372036854775808 ≤ x ∧ x ≤ 9223372036854775807) ha hb hc
    obtain ⟨f, hf, hfs, hfl⟩ := formOf_val o0 o1
    have h := loop_to (fun k n (s : ByteArray) => impl_FormatIns.l0 k s [a, b, c] 3 (n : Int) op a b c) 3 (fun n s => s = mkB (partT op [a, b, c] n)) (mkB (partT op [a, b, c] 3))
      (fun n s hn hI => Or.inl ⟨mkB (partT op [a, b, c] (n + 1)), rfl, 0, fun k _ => by
        have hs : s = mkB (partT op [a, b, c] n) := hI
        subst hs
        have hlen := part_len o0 o1 hr n (by omega)
        have hrn := hr n hn
        have hil := itoa_len21 hrn.1 hrn.2
        have hsz1 : (⟨(Lib.itoa (rd [a, b, c] (n : Int))).toArray⟩ : ByteArray).size ≤ 20 := by rw [mk_size]; exact hil
        have hsz2 : (mkB (partT op [a, b, c] n)).size ≤ 100 := by rw [mkB_size]; omega
        simp only [impl_FormatIns.l0]
        rw [if_pos (by omega), if_pos (by omega), if_pos (by simp only [List.length_cons, List.length_nil]; omega), hf, Option.bind_some, if_pos (by omega), wrap_succ hn (by omega)]
        cases hfb : flB op n with
        | true =>
          rw [if_neg (by rw [hfl n hn, hfb]; decide), fmtInt_val hrn.1 hrn.2, Option.bind_some, if_pos (by omega), if_pos (by rw [ByteArray.size_append]; show _ + (1 + _) ≤ _; omega), part_step op _ n hfb]
        | false =>
          rw [if_pos ((hfl n hn).2 hfb), part_skip op _ n hfb]⟩)
      (fun s hI => ⟨0, fun k _ => by
        have hs : s = mkB (partT op [a, b, c] 3) := hI
        subst hs
        simp only [impl_FormatIns.l0]
        rw [if_neg (by omega)]⟩) 0 (mkB (partT op [a, b, c] 0)) (Nat.zero_le _) rfl
    refine Ev.congr (fun k => ?_) (show Ev _ (mkB (textT op a b c)) from by unfold textT; rw [if_pos hok]; exact h)
    unfold impl_FormatIns.f
    rw [insOk_val, hok, Option.bind_some, if_pos rfl, opName_val o0 o1, Option.bind_some, Option.bind_some, show nameT op = mkB (partT op [a, b, c] 0) from (mkB_data _).symm]
    rfl
end Go.Proofs.YtionemdnfhcfpaaDoor.HS
/- The instruction that a line's text gives, as the program and as the reference read it. No condition but a text that memory holds. -/
set_option linter.unusedVariables false
set_option linter.unusedSimpArgs false
namespace Go.Proofs.YtionemdnfhcfpaaDoor.HS
open Go Go.RowKit Go.Proofs.YtionemdnfhcfpaaDoorW.PrintWords Go.Proofs.YtionemdnfhcfpaaDoorW.PrintLast Go.Proofs.YtionemdnfhcfpaaDoor.Aid

/-- The words of an instruction's text. -/
def wordsT (op : Int) (l : List Int) : Nat → List (List UInt8)
  | 0 => [(nameT op).data.toList]
  | n + 1 => wordsT op l n ++ (if flB op n = true then [Lib.itoa (rd l (n : Int))] else [])
theorem words_cons (op : Int) (l : List Int) : ∀ n, ∃ r, wordsT op l n = (nameT op).data.toList :: r
  | 0 => ⟨[], rfl⟩
  | n + 1 => by
    obtain ⟨r, h⟩ := words_cons op l n
    exact ⟨_, by show wordsT op l n ++ _ = _; rw [h, List.cons_append]⟩
theorem joinTail_snoc (sep : List UInt8) (a : List (List UInt8)) (y : List UInt8) : Lib.joinTail sep (a ++ [y]) = Lib.joinTail sep a ++ (sep ++ y) := by simp [Lib.joinTail]
theorem part_join (op : Int) (l : List Int) : ∀ n, partT op l n = Lib.join (wordsT op l n) [32]
  | 0 => (Lib.join_one _ _).symm
  | n + 1 => by
    have ih := part_join op l n
    obtain ⟨r, hr⟩ := words_cons op l n
    show partT op l n ++ _ = Lib.join (wordsT op l n ++ _) [32]
    rw [ih, hr]
    cases flB op n with
    | true => rw [if_pos rfl, if_pos rfl, List.cons_append, Lib.join_cons, Lib.join_cons, joinTail_snoc, List.append_assoc]; rfl
    | false => rw [if_neg (by decide), if_neg (by decide), List.append_nil, List.append_nil]
theorem itoa_byte {n : Int} {b : UInt8} (h : b ∈ Lib.itoa n) : b.toNat = 45 ∨ (48 ≤ b.toNat ∧ b.toNat ≤ 57) := by
  unfold Lib.itoa at h
  split at h
  · rcases List.mem_cons.1 h with rfl | h
    · left; rfl
    · right; exact digits_mem h
  · right; exact digits_mem h
theorem okC_of {b : UInt8} (h : 33 ≤ b.toNat ∧ b.toNat ≤ 126) : okC b = true ∧ Lib.isSp b = false := by
  have h1 : okC b = true := by unfold okC; exact decide_eq_true ⟨by omega, by omega⟩
  exact ⟨h1, by rw [isSp_ok h1]; exact decide_eq_false (by omega)⟩
theorem name_bytes {op : Int} (h0 : 0 ≤ op) (h1 : op ≤ 16) : (nameT op).data.toList ≠ [] ∧ ∀ b ∈ (nameT op).data.toList, 33 ≤ b.toNat ∧ b.toNat ≤ 126 := by
  rcases op_cases h0 h1 with rfl | rfl | rfl | rfl | rfl | rfl | rfl | rfl | rfl | rfl | rfl | rfl | rfl | rfl | rfl | rfl | rfl <;> decide +kernel
theorem words_bytes {op : Int} (h0 : 0 ≤ op) (h1 : op ≤ 16) (l : List Int) : ∀ n, ∀ w ∈ wordsT op l n, w ≠ [] ∧ ∀ b ∈ w, 33 ≤ b.toNat ∧ b.toNat ≤ 126
  | 0, w, hw => by
    rw [List.mem_singleton.1 hw]
    exact name_bytes h0 h1
  | n + 1, w, hw => by
    rcases List.mem_append.1 hw with hw | hw
    · exact words_bytes h0 h1 l n w hw
    · split at hw
      · rw [List.mem_singleton.1 hw]
        refine ⟨itoa_ne _, fun b hb => ?_⟩
        have := itoa_byte hb
        omega
      · cases hw
theorem words_wordB {op : Int} (h0 : 0 ≤ op) (h1 : op ≤ 16) (l : List Int) (n : Nat) : ∀ w ∈ wordsT op l n, wordB w := fun w hw =>
  ⟨(words_bytes h0 h1 l n w hw).1, fun b hb => (okC_of ((words_bytes h0 h1 l n w hw).2 b hb)).2⟩
/-- The fields as the reference reads them: it stops at the first that is not there or is no number. -/
def runS (op : Int) (W : List (List UInt8)) : Nat → Nat → List Int → Nat → Option (List Int)
  | 0, _, l, x => if x = W.length ∧ insOkB op (rd l 0) (rd l 1) (rd l 2) 32 = true then some l else none
  | d + 1, n, l, x => if flB op n = true then (if x < W.length then (if (puB (W.getD x [])).2 = true then runS op W d (n + 1) (l.set n (puB (W.getD x [])).1) (x + 1) else none) else none) else runS op W d (n + 1) l x
/-- The fields as the program reads them: it takes what is there. -/
def runI (op : Int) (W : List (List UInt8)) : Nat → Nat → List Int → Nat → List Int
  | 0, _, l, _ => l
  | d + 1, n, l, x => if flB op n = true ∧ x < W.length then runI op W d (n + 1) (l.set n (puB (W.getD x [])).1) (x + 1) else runI op W d (n + 1) l x
theorem rd_set {l : List Int} {i j : Nat} {v : Int} : rd (l.set i v) (j : Int) = if i = j ∧ i < l.length then v else rd l (j : Int) := by
  unfold rd
  rw [List.getD_eq_getElem?_getD, List.getD_eq_getElem?_getD, Int.toNat_natCast, List.getElem?_set]
  by_cases h : i = j
  · subst h
    by_cases h2 : i < l.length
    · rw [if_pos rfl, if_pos h2, if_pos ⟨rfl, h2⟩]; rfl
    · rw [if_pos rfl, if_neg h2, if_neg (fun x => h2 x.2), List.getElem?_eq_none (by omega)]
  · rw [if_neg h, if_neg (fun x => h x.1)]
theorem runI_len (op : Int) (W : List (List UInt8)) : ∀ d n l x, (runI op W d n l x).length = l.length
  | 0, n, l, x => rfl
  | d + 1, n, l, x => by
    unfold runI
    split
    · rw [runI_len op W d]; simp
    · exact runI_len op W d _ _ _
theorem runI_keep (op : Int) (W : List (List UInt8)) : ∀ d n l x (j : Nat), j < n → rd (runI op W d n l x) (j : Int) = rd l (j : Int)
  | 0, n, l, x, j, hj => rfl
  | d + 1, n, l, x, j, hj => by
    unfold runI
    split
    · rw [runI_keep op W d _ _ _ j (by omega), rd_set, if_neg (fun h => by omega)]
    · exact runI_keep op W d _ _ _ j (by omega)
theorem words_congr (op : Int) {l l' : List Int} : ∀ n, (∀ j : Nat, j < n → rd l (j : Int) = rd l' (j : Int)) → wordsT op l n = wordsT op l' n
  | 0, _ => rfl
  | n + 1, h => by
    show wordsT op l n ++ _ = wordsT op l' n ++ _
    rw [words_congr op n (fun j hj => h j (by omega)), h n (by omega)]
theorem words_pre (op : Int) (l : List Int) (n : Nat) : ∀ d, ∃ r, wordsT op l (n + d) = wordsT op l n ++ r
  | 0 => ⟨[], by simp⟩
  | d + 1 => by
    obtain ⟨r, h⟩ := words_pre op l n d
    exact ⟨_, by show wordsT op l (n + d) ++ _ = _; rw [h, List.append_assoc]⟩
theorem uint_right {s : List UInt8} (h : (puB s).2 = true) : s = Lib.itoa (puB s).1 ∧ 0 ≤ (puB s).1 ∧ (puB s).1 ≤ 1000000000 := by
  rcases puB_cases s with ⟨n, h0, h1, e, hp⟩ | ⟨hp, _⟩
  · rw [hp]; exact ⟨e, h0, h1⟩
  · rw [hp] at h; cases h
theorem uint_wrong {s : List UInt8} (h : ¬ (puB s).2 = true) : (puB s).1 = 0 ∧ s ≠ Lib.itoa 0 := by
  rcases puB_cases s with ⟨n, h0, h1, e, hp⟩ | ⟨hp, hn⟩
  · rw [hp] at h; exact absurd rfl h
  · rw [hp]; exact ⟨rfl, hn 0 (by decide) (by decide)⟩
theorem getD_some {W : List (List UInt8)} {x : Nat} (h : x < W.length) : W[x]? = some (W.getD x []) := by
  rw [List.getD_eq_getElem?_getD, List.getElem?_eq_getElem h]; rfl
/-- Both read alike: where the reference gives an instruction the program's has these fields, and its text is the line's; where it gives none the program's text is another, or none. -/
theorem run_law (op : Int) (W : List (List UInt8)) : ∀ (d n : Nat) (l : List Int) (x : Nat), n + d = 3 → l.length = 3 → x ≤ W.length → wordsT op l n = W.take x →
    (runS op W d n l x = some (runI op W d n l x) ∧ wordsT op (runI op W d n l x) 3 = W ∧ insOkB op (rd (runI op W d n l x) 0) (rd (runI op W d n l x) 1) (rd (runI op W d n l x) 2) 32 = true) ∨
    (runS op W d n l x = none ∧ ¬ (wordsT op (runI op W d n l x) 3 = W ∧ insOkB op (rd (runI op W d n l x) 0) (rd (runI op W d n l x) 1) (rd (runI op W d n l x) 2) 32 = true))
  | 0, n, l, x, hn, hl, hx, hw => by
    obtain rfl : n = 3 := by omega
    unfold runS runI
    by_cases h : x = W.length
    · rw [h, List.take_length] at hw
      by_cases hok : insOkB op (rd l 0) (rd l 1) (rd l 2) 32 = true
      · rw [if_pos ⟨h, hok⟩]; exact .inl ⟨rfl, hw, hok⟩
      · rw [if_neg (fun q => hok q.2)]; exact .inr ⟨rfl, fun q => hok q.2⟩
    · rw [if_neg (fun q => h q.1)]
      refine .inr ⟨rfl, fun q => h ?_⟩
      have := congrArg List.length (hw.symm.trans q.1)
      rw [List.length_take] at this
      omega
  | d + 1, n, l, x, hn, hl, hx, hw => by
    have hlen : (wordsT op l n).length = x := by rw [hw, List.length_take]; omega
    cases hf : flB op n with
    | false =>
      have e1 : runS op W (d + 1) n l x = runS op W d (n + 1) l x := by rw [runS, hf, if_neg (by decide)]
      have e2 : runI op W (d + 1) n l x = runI op W d (n + 1) l x := by rw [runI, hf, if_neg (fun q => by cases q.1)]
      rw [e1, e2]
      refine run_law op W d (n + 1) l x (by omega) hl hx ?_
      show wordsT op l n ++ _ = _
      rw [hf, if_neg (by decide), List.append_nil, hw]
    | true =>
      by_cases hlt : x < W.length
      · have e2 : runI op W (d + 1) n l x = runI op W d (n + 1) (l.set n (puB (W.getD x [])).1) (x + 1) := by rw [runI, hf, if_pos ⟨rfl, hlt⟩]
        have hrn : rd (l.set n (puB (W.getD x [])).1) (n : Int) = (puB (W.getD x [])).1 := by rw [rd_set, if_pos ⟨rfl, by omega⟩]
        have hpre : wordsT op (l.set n (puB (W.getD x [])).1) n = wordsT op l n := words_congr op n (fun j hj => by rw [rd_set, if_neg (fun h => by omega)])
        by_cases hr : (puB (W.getD x [])).2 = true
        · have e1 : runS op W (d + 1) n l x = runS op W d (n + 1) (l.set n (puB (W.getD x [])).1) (x + 1) := by rw [runS, hf, if_pos rfl, if_pos hlt, if_pos hr]
          rw [e1, e2]
          refine run_law op W d (n + 1) _ (x + 1) (by omega) (by simpa using hl) (by omega) ?_
          show wordsT op _ n ++ _ = _
          rw [hpre, hf, if_pos rfl, hrn, hw, ← (uint_right hr).1, List.take_add_one, getD_some hlt]; rfl
        · have e1 : runS op W (d + 1) n l x = none := by rw [runS, hf, if_pos rfl, if_pos hlt, if_neg hr]
          rw [e1, e2]
          refine .inr ⟨rfl, fun q => ?_⟩
          generalize hL : runI op W d (n + 1) (l.set n (puB (W.getD x [])).1) (x + 1) = L at q
          have hk : ∀ j : Nat, j < n + 1 → rd L (j : Int) = rd (l.set n (puB (W.getD x [])).1) (j : Int) := fun j hj => by rw [← hL]; exact runI_keep op W d _ _ _ j hj
          obtain ⟨r, hr2⟩ := words_pre op L (n + 1) d
          have h3 : n + 1 + d = 3 := by omega
          rw [h3, q.1] at hr2
          have hW : wordsT op L (n + 1) = wordsT op l n ++ [Lib.itoa 0] := by
            rw [words_congr op (n + 1) hk]
            show wordsT op _ n ++ _ = _
            rw [hpre, hf, if_pos rfl, hrn, (uint_wrong hr).1]
          have hat : W[x]? = some (Lib.itoa 0) := by
            rw [hr2, hW, List.append_assoc, List.getElem?_append_right (by omega), hlen, Nat.sub_self]; rfl
          rw [getD_some hlt] at hat
          exact (uint_wrong hr).2 (Option.some.inj hat)
      · have e1 : runS op W (d + 1) n l x = none := by rw [runS, hf, if_pos rfl, if_neg hlt]
        have e2 : runI op W (d + 1) n l x = runI op W d (n + 1) l x := by rw [runI, hf, if_neg (fun q => hlt q.2)]
        rw [e1, e2]
        refine .inr ⟨rfl, fun q => ?_⟩
        generalize hL : runI op W d (n + 1) l x = L at q
        obtain ⟨r, hr2⟩ := words_pre op L (n + 1) d
        have h3 : n + 1 + d = 3 := by omega
        rw [h3, q.1] at hr2
        have hk : wordsT op L n = wordsT op l n := words_congr op n (fun j hj => by rw [← hL]; exact runI_keep op W d _ _ _ j (by omega))
        have hW : wordsT op L (n + 1) = wordsT op l n ++ [Lib.itoa (rd L (n : Int))] := by
          show wordsT op L n ++ _ = _
          rw [hk, hf, if_pos rfl]
        have := congrArg List.length hr2
        rw [hW] at this
        simp at this
        omega
/-- The program's fields lie in an int. -/
theorem runI_range (op : Int) (W : List (List UInt8)) : ∀ d n l x, (∀ j : Nat, 0 ≤ rd l (j : Int) ∧ rd l (j : Int) ≤ 1000000000) → ∀ j : Nat, 0 ≤ rd (runI op W d n l x) (j : Int) ∧ rd (runI op W d n l x) (j : Int) ≤ 1000000000
  | 0, n, l, x, h, j => h j
  | d + 1, n, l, x, h, j => by
    unfold runI
    split
    · refine runI_range op W d _ _ _ (fun i => ?_) j
      rw [rd_set]
      split
      · rcases puB_cases (W.getD x []) with ⟨n, h0, h1, e, hp⟩ | ⟨hp, _⟩ <;> rw [hp]
        · exact ⟨h0, h1⟩
        · exact ⟨by decide, by decide⟩
      · exact h i
    · exact runI_range op W d _ _ _ h j
/-- A text of the program's own is read back. -/
theorem runI_back (op : Int) (l : List Int) (hr : ∀ n : Nat, n < 3 → 0 ≤ rd l (n : Int) ∧ rd l (n : Int) ≤ 1000000000) : ∀ (d n : Nat) (m : List Int) (x : Nat), n + d = 3 → m.length = 3 → x = (wordsT op l n).length → (∀ j : Nat, j < n → rd m (j : Int) = rd l (j : Int)) → (∀ j : Nat, n ≤ j → j < 3 → flB op j = false → rd m (j : Int) = rd l (j : Int)) →
    ∀ j : Nat, j < 3 → rd (runI op (wordsT op l 3) d n m x) (j : Int) = rd l (j : Int)
  | 0, n, m, x, hn, hl, hx, h1, h2, j, hj => h1 j (by omega)
  | d + 1, n, m, x, hn, hl, hx, h1, h2, j, hj => by
    obtain ⟨r, hr2⟩ := words_pre op l (n + 1) d
    have h3 : n + 1 + d = 3 := by omega
    rw [h3] at hr2
    cases hf : flB op n with
    | false =>
      have hw : wordsT op l (n + 1) = wordsT op l n := by
        show wordsT op l n ++ _ = _
        rw [hf, if_neg (by decide), List.append_nil]
      rw [runI, hf, if_neg (fun q => by cases q.1)]
      refine runI_back op l hr d (n + 1) m x (by omega) hl (by rw [hw]; exact hx) (fun i hi => ?_) (fun i hi => h2 i (by omega)) j hj
      by_cases e : i = n
      · subst e; exact h2 i (Nat.le_refl _) (by omega) hf
      · exact h1 i (by omega)
    | true =>
      have hw : wordsT op l (n + 1) = wordsT op l n ++ [Lib.itoa (rd l (n : Int))] := by
        show wordsT op l n ++ _ = _
        rw [hf, if_pos rfl]
      have hlt : x < (wordsT op l 3).length := by rw [hr2, hw]; simp; omega
      have hg : (wordsT op l 3).getD x [] = Lib.itoa (rd l (n : Int)) := by
        rw [List.getD_eq_getElem?_getD, hr2, hw, List.append_assoc, List.getElem?_append_right (by omega), hx, Nat.sub_self]; rfl
      have hv := hr n (by omega)
      rw [runI, hf, if_pos ⟨rfl, hlt⟩, hg, puB_itoa hv.1 hv.2]
      refine runI_back op l hr d (n + 1) _ (x + 1) (by omega) (by simpa using hl) (by rw [hw, hx]; simp) (fun i hi => ?_) (fun i hi hi3 hfi => ?_) j hj
      · rw [rd_set]
        by_cases e : n = i
        · subst e; rw [if_pos ⟨rfl, by omega⟩]
        · rw [if_neg (fun q => e q.1)]; exact h1 i (by omega)
      · rw [rd_set, if_neg (fun q => by omega)]; exact h2 i (by omega) hi3 hfi
/-! ### What the functions compute -/
theorem flB_zero {op : Int} {n : Nat} (hn : n < 3) : (Go.bits .and .i64 (shr .i64 (l06 op) (n : Int)) 1 = 0) ↔ flB op n = false := by
  have hc : n = 0 ∨ n = 1 ∨ n = 2 := by omega
  have h6 : l06 op = 0 ∨ l06 op = 1 ∨ l06 op = 2 ∨ l06 op = 3 ∨ l06 op = 7 := by
    unfold l06
    repeat' split
    all_goals simp
  unfold flB
  rcases h6 with h | h | h | h | h <;> rw [h] <;> rcases hc with rfl | rfl | rfl <;> decide +kernel
theorem getD_mk {W : List (List UInt8)} {x : Nat} (h : x < W.length) : (W.map mkB).getD x ByteArray.empty = mkB (W.getD x []) := by
  rw [List.getD_eq_getElem?_getD, List.getElem?_map, getD_some h]; rfl
theorem put_set (t : Int × Int × Int) (n : Nat) (hn : n < 3) (v : Int) : [(impl_ParseIns.put t n v).1, (impl_ParseIns.put t n v).2.1, (impl_ParseIns.put t n v).2.2] = [t.1, t.2.1, t.2.2].set n v := by
  have hc : n = 0 ∨ n = 1 ∨ n = 2 := by omega
  rcases hc with rfl | rfl | rfl <;> rfl
def tri (l : List Int) : Int × Int × Int := (rd l 0, rd l 1, rd l 2)
theorem go_val (op : Int) (W : List (List UInt8)) (hW : ∀ w ∈ W, w.length ≤ 281474976710656) : ∀ (cs : List UInt8) (n x : Nat) (t : Int × Int × Int), n + cs.length = 3 → (∀ (i : Nat) c, cs[i]? = some c → (c.toNat = 45 ↔ flB op (n + i) = false)) →
    impl_ParseIns.go (W.map mkB) cs n x t = some (tri (runI op W cs.length n [t.1, t.2.1, t.2.2] x))
  | [], n, x, t, hn, hc => rfl
  | c :: cs, n, x, t, hn, hc => by
    have h0 : c.toNat = 45 ↔ flB op n = false := hc 0 c rfl
    have hc' : ∀ (i : Nat) d, cs[i]? = some d → (d.toNat = 45 ↔ flB op (n + 1 + i) = false) := fun i d hd => by
      have := hc (i + 1) d (by simpa using hd)
      rw [show n + (i + 1) = n + 1 + i by omega] at this
      exact this
    have hn' : n + 1 + cs.length = 3 := by simp at hn; omega
    rw [impl_ParseIns.go, List.length_map, List.length_cons, runI]
    by_cases h : flB op n = true ∧ x < W.length
    · have h1 : c.toNat ≠ 45 ∧ x < W.length := ⟨fun e => (by have q := h.1; rw [h0.1 e] at q; cases q), h.2⟩
      have hm : W.getD x [] ∈ W := List.mem_of_getElem? (getD_some h.2)
      rw [if_pos h, if_pos h1, getD_mk h.2, implUint_val (by rw [mkB_size]; exact hW _ hm), Option.bind_some, mkB_list, ← put_set t n (by omega)]
      exact go_val op W hW cs (n + 1) (x + 1) _ hn' hc'
    · have h1 : ¬ (c.toNat ≠ 45 ∧ x < W.length) := fun q => h ⟨by
        cases hf : flB op n with
        | true => rfl
        | false => exact absurd (h0.2 hf) q.1, q.2⟩
      rw [if_neg h, if_neg h1]
      exact go_val op W hW cs (n + 1) x t hn' hc'
def outS (op : Int) : Option (List Int) → Int × Int × Int × Int × Bool
  | some l => (op, rd l 0, rd l 1, rd l 2, true)
  | none => (0, 0, 0, 0, false)
theorem l1_val {op : Int} (o0 : 0 ≤ op) (o1 : op ≤ 16) (W : List (List UInt8)) (hWl : W.length ≤ 1000) : ∀ (d n : Nat) (l : List Int) (x : Nat), n + d = 3 → l.length = 3 → x ≤ W.length → Ev (fun k => spec_ParseIns.l1 k (W.map mkB) op l (x : Int) (n : Int)) (outS op (runS op W d n l x))
  | 0, n, l, x, hn, hl, hx => by
    obtain rfl : n = 3 := by omega
    refine ⟨3, fun k hk => ?_⟩
    obtain ⟨k, rfl⟩ : ∃ j, k = j + 3 := ⟨k - 3, by omega⟩
    show spec_ParseIns.l1 (k + 3) (W.map mkB) op l (x : Int) ((3 : Nat) : Int) = some _
    simp only [spec_ParseIns.l1, hl, List.length_map]
    rw [if_neg (by decide), if_pos (by decide), if_pos (by decide), if_pos (by decide), specInsOk_val, Option.bind_some]
    unfold runS
    by_cases h : x = W.length
    · rw [if_pos (by omega)]
      by_cases hok : insOkB op (rd l 0) (rd l 1) (rd l 2) 32 = true
      · rw [if_pos hok, if_pos ⟨h, hok⟩]; rfl
      · rw [if_neg hok, if_neg (fun q => hok q.2)]; rfl
    · rw [if_neg (by omega), if_neg (fun q => h q.1)]; rfl
  | d + 1, n, l, x, hn, hl, hx => by
    have hw : wrap64 ((n : Int) + 1) = ((n + 1 : Nat) : Int) := wrap_succ (N := 3) (by omega) (by omega)
    cases hf : flB op n with
    | false =>
      have e1 : runS op W (d + 1) n l x = runS op W d (n + 1) l x := by rw [runS, hf, if_neg (by decide)]
      obtain ⟨K, hK⟩ := l1_val o0 o1 W hWl d (n + 1) l x (by omega) hl hx
      rw [e1]
      refine ⟨K + 2, fun k hk => ?_⟩
      obtain ⟨k, rfl⟩ : ∃ j, k = j + 2 := ⟨k - 2, by omega⟩
      show spec_ParseIns.l1 (k + 2) (W.map mkB) op l (x : Int) (n : Int) = some _
      rw [spec_ParseIns.l1, if_pos (by omega), l06_val o0 o1, Option.bind_some, if_pos (by omega), if_pos ((flB_zero (by omega)).2 hf), hw]
      exact hK (k + 1) (by omega)
    | true =>
      have hz : ¬ (Go.bits .and .i64 (shr .i64 (l06 op) (n : Int)) 1 = 0) := fun e => by
        rw [(flB_zero (by omega)).1 e] at hf; cases hf
      by_cases hlt : x < W.length
      · obtain ⟨K1, h1⟩ := specUint_ev (mkB (W.getD x []))
        have hrd : rdOf ByteArray.empty (W.map mkB) (x : Int) = mkB (W.getD x []) := by
          unfold rdOf; rw [Int.toNat_natCast]; exact getD_mk hlt
        rw [mkB_list] at h1
        by_cases hr : (puB (W.getD x [])).2 = true
        · have e1 : runS op W (d + 1) n l x = runS op W d (n + 1) (l.set n (puB (W.getD x [])).1) (x + 1) := by rw [runS, hf, if_pos rfl, if_pos hlt, if_pos hr]
          obtain ⟨K, hK⟩ := l1_val o0 o1 W hWl d (n + 1) (l.set n (puB (W.getD x [])).1) (x + 1) (by omega) (by simpa using hl) (by omega)
          rw [e1]
          refine ⟨K + K1 + 2, fun k hk => ?_⟩
          obtain ⟨k, rfl⟩ : ∃ j, k = j + 2 := ⟨k - 2, by omega⟩
          have e2 : spec_ParseUint.f (k + 1) (mkB (W.getD x [])) = some (puB (W.getD x [])) := h1 (k + 1) (by omega)
          show spec_ParseIns.l1 (k + 2) (W.map mkB) op l (x : Int) (n : Int) = some _
          rw [spec_ParseIns.l1, if_pos (by omega), l06_val o0 o1, Option.bind_some, if_pos (by omega), if_neg hz, List.length_map, if_neg (by omega), if_pos (by omega), if_pos (by omega), hrd, e2, Option.bind_some, if_pos hr, if_pos (by omega), hw, wrap_succ hlt (by omega), Int.toNat_natCast]
          exact hK (k + 1) (by omega)
        · have e1 : runS op W (d + 1) n l x = none := by rw [runS, hf, if_pos rfl, if_pos hlt, if_neg hr]
          rw [e1]
          refine ⟨K1 + 2, fun k hk => ?_⟩
          obtain ⟨k, rfl⟩ : ∃ j, k = j + 2 := ⟨k - 2, by omega⟩
          have e2 : spec_ParseUint.f (k + 1) (mkB (W.getD x [])) = some (puB (W.getD x [])) := h1 (k + 1) (by omega)
          show spec_ParseIns.l1 (k + 2) (W.map mkB) op l (x : Int) (n : Int) = some _
          rw [spec_ParseIns.l1, if_pos (by omega), l06_val o0 o1, Option.bind_some, if_pos (by omega), if_neg hz, List.length_map, if_neg (by omega), if_pos (by omega), if_pos (by omega), hrd, e2, Option.bind_some, if_neg hr]
          rfl
      · have e1 : runS op W (d + 1) n l x = none := by rw [runS, hf, if_pos rfl, if_neg hlt]
        rw [e1]
        refine ⟨2, fun k hk => ?_⟩
        obtain ⟨k, rfl⟩ : ∃ j, k = j + 2 := ⟨k - 2, by omega⟩
        show spec_ParseIns.l1 (k + 2) (W.map mkB) op l (x : Int) (n : Int) = some _
        rw [spec_ParseIns.l1, if_pos (by omega), l06_val o0 o1, Option.bind_some, if_pos (by omega), if_neg hz, List.length_map, if_pos (by omega)]
        rfl
theorem idx_cases (x : ByteArray) : ∀ (zs : List ByteArray) (i : Nat), (∃ k, k < zs.length ∧ Lib.idxFromS zs x i = ((i + k : Nat) : Int) ∧ zs.getD k ByteArray.empty = x ∧ ∀ j, j < k → zs.getD j ByteArray.empty ≠ x) ∨ (Lib.idxFromS zs x i = -1 ∧ ∀ j, j < zs.length → zs.getD j ByteArray.empty ≠ x)
  | [], i => .inr ⟨rfl, fun j hj => by simp at hj⟩
  | z :: zs, i => by
    by_cases hz : z = x
    · refine .inl ⟨0, by simp, ?_, hz, fun j hj => by omega⟩
      simp [Lib.idxFromS, hz]
    · have e : Lib.idxFromS (z :: zs) x i = Lib.idxFromS zs x (i + 1) := by simp [Lib.idxFromS, hz]
      rcases idx_cases x zs (i + 1) with ⟨k, hk, h1, h2, h3⟩ | ⟨h1, h2⟩
      · refine .inl ⟨k + 1, by simp; omega, by rw [e, h1]; congr 1; omega, h2, fun j hj => ?_⟩
        cases j with
        | zero => exact hz
        | succ j => exact h3 j (by omega)
      · refine .inr ⟨by rw [e, h1], fun j hj => ?_⟩
        cases j with
        | zero => exact hz
        | succ j => exact h2 j (by simpa using hj)
theorem name_at (j : Nat) : nameT (j : Int) = namesT.getD j ByteArray.empty := by unfold nameT rdOf; rw [Int.toNat_natCast]
theorem list_eq {a b : ByteArray} : a.toList = b.toList ↔ a = b := by
  rw [toList_data, toList_data]
  exact ⟨fun h => ByteArray.ext (Array.toList_inj.mp h), fun h => by rw [h]⟩
theorem names_len : namesT.length = 17 := rfl
theorem spec_l0_step (W : List ByteArray) (hW : 0 < W.length) (n : Nat) (hn : n < 17) (k : Nat) : spec_ParseIns.l0 (k + 1) W (n : Int) = if nameT (n : Int) = W.getD 0 ByteArray.empty then spec_ParseIns.l1 k W (n : Int) [0, 0, 0] 1 0 else spec_ParseIns.l0 k W ((n + 1 : Nat) : Int) := by
  rw [spec_ParseIns.l0, if_pos (by omega), specOpName_val (by omega) (by omega), Option.bind_some, if_pos (by omega), wrap_succ hn (by omega)]
  have e : rdOf ByteArray.empty W 0 = W.getD 0 ByteArray.empty := rfl
  rw [e]
  by_cases h : nameT (n : Int) = W.getD 0 ByteArray.empty
  · rw [if_pos (list_eq.2 h), if_pos h, if_pos (by decide)]; rfl
  · rw [if_neg (fun q => h (list_eq.1 q)), if_neg h]
theorem join_len (w : List UInt8) (W : List (List UInt8)) (h : ((w :: W).map (·.length)).sum ≤ 600) (h2 : (w :: W).length ≤ 24) : (Lib.join (w :: W) [32]).length ≤ 700 := by
  rw [Lib.join_length]
  unfold Lib.lens
  simp at h2 ⊢ h
  omega
theorem insOk_zero {op a b c s : Int} (h : insOkB op a b c s = true) (n : Nat) (hn : n < 3) (hf : flB op n = false) : rd [a, b, c] (n : Int) = 0 := by
  obtain ⟨o0, o1⟩ := insOk_op h
  have hc : n = 0 ∨ n = 1 ∨ n = 2 := by omega
  rcases op_cases o0 o1 with rfl | rfl | rfl | rfl | rfl | rfl | rfl | rfl | rfl | rfl | rfl | rfl | rfl | rfl | rfl | rfl | rfl <;> rcases hc with rfl | rfl | rfl <;>
    first
      | (exfalso; revert hf; decide +kernel)
      | (simp [insOkB] at h; show _ = (0 : Int); first | exact h.2.1.1 | exact h.2.1.2 | exact h.2.2 | exact h.2.1 | omega)
theorem insOk_range {op a b c : Int} (h : insOkB op a b c 32 = true) (n : Nat) (hn : n < 3) : 0 ≤ rd [a, b, c] (n : Int) ∧ rd [a, b, c] (n : Int) ≤ 65535 := by
  have h2 : (0 ≤ a ∧ a ≤ 65535) ∧ (0 ≤ b ∧ b ≤ 65535) ∧ (0 ≤ c ∧ c ≤ 65535) := by
    unfold insOkB at h
    simp only [inB, Bool.and_eq_true, decide_eq_true_eq] at h
    obtain ⟨_, h⟩ := h
    split at h
    · simp at h; omega
    split at h
    · simp at h; omega
    split at h
    · simp at h; omega
    split at h
    · simp at h; omega
    split at h
    · simp at h; omega
    split at h
    · simp at h; omega
    split at h
    · simp at h; omega
    · cases h
  have hc : n = 0 ∨ n = 1 ∨ n = 2 := by omega
  rcases hc with rfl | rfl | rfl
  · exact h2.1
  · exact h2.2.1
  · exact h2.2.2
theorem tri_rd (L : List Int) (j : Nat) (hj : j < 3) : rd [rd L 0, rd L 1, rd L 2] (j : Int) = rd L (j : Int) := by
  have hc : j = 0 ∨ j = 1 ∨ j = 2 := by omega
  rcases hc with rfl | rfl | rfl <;> rfl
/-- A line's instruction: both read the same; and a valid instruction's own text gives that instruction. -/
theorem parse_ev (a : ByteArray) : ∃ r : Int × Int × Int × Int × Bool, Ev (fun k => impl_ParseIns.f k a) r ∧ Ev (fun k => spec_ParseIns.f k a) r ∧ (∀ op x y z : Int, insOkB op x y z 32 = true → a.data.toList = textT op x y z → r = (op, x, y, z, true)) := by
  have hI := implSplit_val a
  obtain ⟨K0, h0⟩ := specSplit_ev a
  have back : ∀ op x y z : Int, insOkB op x y z 32 = true → a.data.toList = textT op x y z → splitB a.data.toList = (wordsT op [x, y, z] 3, true) := by
    intro op x y z hok hs
    obtain ⟨o0, o1⟩ := insOk_op hok
    have hwb := words_wordB o0 o1 [x, y, z] 3
    have ht : a.data.toList = Lib.join (wordsT op [x, y, z] 3) [32] := by
      rw [hs]; unfold textT; rw [if_pos hok, part_join]
    have hlen : a.data.toList.length ≤ 600 := by
      have := part_len o0 o1 (l := [x, y, z]) (fun n hn => by have := insOk_range hok n hn; omega) 3 (Nat.le_refl _)
      rw [hs]; unfold textT; rw [if_pos hok]; omega
    have hall : a.data.toList.all okC = true := by
      rw [List.all_eq_true]
      intro b hb
      rw [ht] at hb
      obtain ⟨r, hr⟩ := words_cons op [x, y, z] 3
      have hwy := words_bytes o0 o1 [x, y, z] 3
      rw [hr] at hb hwy
      rw [Lib.join_cons] at hb
      rcases List.mem_append.1 hb with hb | hb
      · exact (okC_of ((hwy _ List.mem_cons_self).2 b hb)).1
      · unfold Lib.joinTail at hb
        obtain ⟨v, hv, hbv⟩ := List.mem_flatten.1 hb
        obtain ⟨w, hw, rfl⟩ := List.mem_map.1 hv
        rcases List.mem_append.1 hbv with h1 | h1
        · rw [List.mem_singleton.1 h1]; rfl
        · exact (okC_of ((hwy w (List.mem_cons_of_mem _ hw)).2 b h1)).1
    have hf : Lib.fields a.data.toList = wordsT op [x, y, z] 3 := by rw [ht]; exact fields_join hwb
    have hc : (wordsT op [x, y, z] 3).length ≤ 24 := by
      show (((([(nameT op).data.toList] ++ _) ++ _) ++ _) : List (List UInt8)).length ≤ 24
      simp only [List.length_append]
      repeat' split
      all_goals simp
    unfold splitB
    rw [if_pos ⟨hlen, hall⟩, hf, if_pos hc]
  have hsp : (splitB a.data.toList).2 = true → (∀ w ∈ (splitB a.data.toList).1, wordB w ∧ w.length ≤ 600) ∧ ((splitB a.data.toList).1.map (·.length)).sum ≤ 600 ∧ (splitB a.data.toList).1.length ≤ 24 := by
    intro hok
    unfold splitB at hok ⊢
    split at hok
    · rename_i h1
      split at hok
      · rename_i h2
        rw [if_pos h1, if_pos h2]
        have hsum := fieldsGo_bytes a.data.toList []
        rw [List.length_nil, Nat.zero_add] at hsum
        have hs2 : ((Lib.fields a.data.toList).map (·.length)).sum ≤ 600 := Nat.le_trans hsum h1.1
        refine ⟨fun w hw => ⟨(fields_words hw).1, ?_⟩, hs2, h2⟩
        have : ∀ (L : List (List UInt8)), w ∈ L → w.length ≤ (L.map (·.length)).sum := by
          intro L
          induction L with
          | nil => intro h; cases h
          | cons y L ih =>
            intro h
            rcases List.mem_cons.1 h with rfl | h
            · simp
            · have := ih h; simp; omega
        exact Nat.le_trans (this _ hw) hs2
      · cases hok
    · cases hok
  cases hS : splitB a.data.toList with
  | mk W ok =>
  rw [hS] at hI h0 hsp back
  have zeros : (ok = false ∨ W = []) → ∃ r : Int × Int × Int × Int × Bool, Ev (fun k => impl_ParseIns.f k a) r ∧ Ev (fun k => spec_ParseIns.f k a) r ∧ (∀ op x y z : Int, insOkB op x y z 32 = true → a.data.toList = textT op x y z → r = (op, x, y, z, true)) := by
    intro hno
    refine ⟨(0, 0, 0, 0, false), ⟨0, fun k _ => ?_⟩, ⟨K0 + 1, fun k hk => ?_⟩, fun op x y z hok hs => ?_⟩
    · show impl_ParseIns.f k a = some _
      unfold impl_ParseIns.f
      rw [hI, Option.bind_some]
      rcases hno with rfl | rfl
      · rfl
      · cases ok <;> rfl
    · obtain ⟨k, rfl⟩ : ∃ j, k = j + 1 := ⟨k - 1, by omega⟩
      have e : spec_SplitFields.f (k + 1) a = some (W.map mkB, ok) := h0 (k + 1) (by omega)
      show spec_ParseIns.f (k + 1) a = some _
      unfold spec_ParseIns.f
      rw [e, Option.bind_some]
      rcases hno with rfl | rfl
      · rfl
      · cases ok <;> rfl
    · exfalso
      obtain ⟨r, hr⟩ := words_cons op [x, y, z] 3
      have hb := back op x y z hok hs
      rw [hr] at hb
      rcases hno with rfl | rfl
      · cases congrArg Prod.snd hb
      · cases congrArg Prod.fst hb
  cases ok with
  | false => exact zeros (.inl rfl)
  | true =>
  cases W with
  | nil => exact zeros (.inr rfl)
  | cons w0 W' =>
  clear zeros
  obtain ⟨hwb, hsum, hcnt⟩ := hsp rfl
  have hj7 := join_len w0 W' hsum hcnt
  have hw0 : w0 ≠ [] := (hwb w0 List.mem_cons_self).1.1
  simp only at hwb hsum hcnt hI h0
  have hlen : (w0 :: W').length ≤ 24 := hcnt
  generalize hWW : w0 :: W' = W at *
  have hWl : 0 < W.length := by rw [← hWW]; simp
  have hg0 : (W.map mkB).getD 0 ByteArray.empty = mkB w0 := by rw [← hWW]; rfl
  have hmm : (W.map mkB).map (·.data.toList) = W := by
    rw [List.map_map]
    exact (List.map_congr_left (fun w _ => mkB_list w)).trans (List.map_id W)
  have hjne : Lib.join W [32] ≠ [] := by
    rw [← hWW, Lib.join_cons]
    intro e
    exact hw0 (List.append_eq_nil_iff.1 e).1
  have himpl : ∀ (fm : ByteArray) (op : Int) (t : Int × Int × Int), Lib.idxOfS namesT (mkB w0) = op → impl_formOf.f op = some fm → fm.size ≤ 3 → impl_ParseIns.go (W.map mkB) fm.data.toList 0 1 (0, 0, 0) = some t → (0 ≤ t.1 ∧ t.1 ≤ 1000000000) → (0 ≤ t.2.1 ∧ t.2.1 ≤ 1000000000) → (0 ≤ t.2.2 ∧ t.2.2 ≤ 1000000000) →
      Ev (fun k => impl_ParseIns.f k a) (if textT op t.1 t.2.1 t.2.2 = [] then (0, 0, 0, 0, false) else if textT op t.1 t.2.1 t.2.2 = Lib.join W [32] then (op, t.1, t.2.1, t.2.2, true) else (0, 0, 0, 0, false)) := by
    intro fm op t hop hfm hsz hgo r1 r2 r3
    obtain ⟨K, hK⟩ := formatIns_ev (op := op) (a := t.1) (b := t.2.1) (c := t.2.2) (by omega) (by omega) (by omega)
    refine ⟨K, fun k hk => ?_⟩
    have e : impl_FormatIns.f k op t.1 t.2.1 t.2.2 = some (mkB (textT op t.1 t.2.1 t.2.2)) := hK k hk
    show impl_ParseIns.f k a = some _
    unfold impl_ParseIns.f
    rw [hI, Option.bind_some, if_pos rfl, List.length_map, if_neg (by omega), show impl_opNames.f = some namesT from rfl, Option.bind_some, hg0, hop, hfm, Option.bind_some, hmm, if_pos ⟨hsz, by decide, by omega, by omega⟩, hgo, Option.bind_some, e, Option.bind_some, toList_data, mkB_list]
    by_cases h1 : textT op t.1 t.2.1 t.2.2 = []
    · rw [if_pos h1, if_pos h1]
    · rw [if_neg h1, if_neg h1]
      by_cases h2 : textT op t.1 t.2.1 t.2.2 = Lib.join W [32]
      · rw [if_pos h2, if_pos h2]
      · rw [if_neg h2, if_neg h2]
  have hspec : ∀ r, Ev (fun k => spec_ParseIns.l0 k (W.map mkB) ((0 : Nat) : Int)) r → Ev (fun k => spec_ParseIns.f k a) r := by
    intro r ⟨K, hK⟩
    refine ⟨K0 + K + 1, fun k hk => ?_⟩
    obtain ⟨k, rfl⟩ : ∃ j, k = j + 1 := ⟨k - 1, by omega⟩
    have e : spec_SplitFields.f (k + 1) a = some (W.map mkB, true) := h0 (k + 1) (by omega)
    show spec_ParseIns.f (k + 1) a = some _
    unfold spec_ParseIns.f
    rw [e, Option.bind_some, if_pos rfl, List.length_map, show ((W.length : Int) == 0) = false from beq_eq_false_iff_ne.mpr (by omega)]
    simp only [spec_ParseIns.j0]
    rw [if_neg (by decide)]
    exact hK k (by omega)
  rcases idx_cases (mkB w0) namesT 0 with ⟨o, ho, hidx, hnm, hne⟩ | ⟨hidx, hne⟩
  · rw [names_len] at ho
    rw [Nat.zero_add] at hidx
    have hidx : Lib.idxOfS namesT (mkB w0) = (o : Int) := hidx
    have hname : nameT (o : Int) = mkB w0 := (name_at o).trans hnm
    obtain ⟨fm, hfm, hfs, hfl⟩ := formOf_val (op := (o : Int)) (by omega) (by omega)
    have hL3 : fm.data.toList.length = 3 := by rw [← size_list]; exact hfs
    have hgo := go_val (o : Int) W (fun w hw => by have := (hwb w hw).2; omega) fm.data.toList 0 1 (0, 0, 0) (by omega) (fun i c hc => by
      have hi : i < 3 := by have := (List.getElem?_eq_some_iff.1 hc).1; omega
      have h := hfl i hi
      rw [bt_list hc] at h
      rw [Nat.zero_add, ← h]; omega)
    rw [hL3] at hgo
    have hrun := run_law (o : Int) W 3 0 [0, 0, 0] 1 (by omega) rfl (by omega) (by
      show [(nameT (o : Int)).data.toList] = _
      rw [hname, mkB_list, ← hWW]; rfl)
    have hrange := runI_range (o : Int) W 3 0 [0, 0, 0] 1 (fun j => by
      unfold rd
      rw [Int.toNat_natCast]
      rcases j with _ | _ | _ | j <;> simp)
    have hbk : ∀ op x y z : Int, insOkB op x y z 32 = true → a.data.toList = textT op x y z → op = (o : Int) ∧ ∀ j : Nat, j < 3 → rd (runI (o : Int) W 3 0 [0, 0, 0] 1) (j : Int) = rd [x, y, z] (j : Int) := by
      intro op x y z hok hs
      obtain ⟨q0, q1⟩ := insOk_op hok
      have hb := congrArg Prod.fst (back op x y z hok hs)
      simp only at hb
      obtain ⟨r, hr⟩ := words_cons op [x, y, z] 3
      have hnq : nameT op = nameT (o : Int) := by
        have h1 : w0 = (nameT op).data.toList := by
          rw [hr, ← hWW] at hb
          injection hb
        rw [hname, h1, mkB_data]
      have hoo : op = (o : Int) := by
        have : ∀ p q : Fin 17, nameT ((p.val : Nat) : Int) = nameT ((q.val : Nat) : Int) → p = q := by decide +kernel
        have h2 := this ⟨op.toNat, by omega⟩ ⟨o, ho⟩ (by
          show nameT ((op.toNat : Nat) : Int) = nameT (o : Int)
          rw [Int.toNat_of_nonneg q0]; exact hnq)
        have := congrArg Fin.val h2
        simp at this
        omega
      refine ⟨hoo, ?_⟩
      rw [hb, hoo]
      rw [hoo] at hok
      exact runI_back (o : Int) [x, y, z] (fun n hn => by have := insOk_range hok n hn; omega) 3 0 [0, 0, 0] 1 (by omega) rfl rfl (fun j hj => by omega) (fun j _ hj hf => by
        rw [insOk_zero hok j hj hf]
        have hc : j = 0 ∨ j = 1 ∨ j = 2 := by omega
        rcases hc with rfl | rfl | rfl <;> rfl)
    have him := himpl fm (o : Int) _ hidx hfm (by omega) hgo (hrange 0) (hrange 1) (hrange 2)
    have hsp1 := l1_val (op := (o : Int)) (by omega) (by omega) W (by omega) 3 0 [0, 0, 0] 1 (by omega) rfl (by omega)
    generalize runI (o : Int) W 3 0 [0, 0, 0] 1 = L at hgo hrun him hbk
    have hwc : wordsT (o : Int) [rd L 0, rd L 1, rd L 2] 3 = wordsT (o : Int) L 3 := words_congr _ 3 (fun j hj => tri_rd L j hj)
    have hsl : Ev (fun k => spec_ParseIns.l0 k (W.map mkB) ((0 : Nat) : Int)) (outS (o : Int) (runS (o : Int) W 3 0 [0, 0, 0] 1)) := by
      obtain ⟨K, hK⟩ := hsp1
      refine loop_to (fun k n (_ : Unit) => spec_ParseIns.l0 k (W.map mkB) (n : Int)) o (fun _ _ => True) _
        (fun n s hn _ => .inl ⟨(), trivial, 0, fun k _ => by
          rw [spec_l0_step _ (by rw [List.length_map]; exact hWl) n (by omega), if_neg (by rw [hg0, name_at]; exact hne n hn)]⟩)
        (fun s _ => ⟨K, fun k hk => by
          rw [spec_l0_step _ (by rw [List.length_map]; exact hWl) o (by omega), if_pos (by rw [hg0, hname])]
          exact hK k hk⟩) 0 () (Nat.zero_le _) trivial
    have him2 : Ev (fun k => impl_ParseIns.f k a) (if textT (o : Int) (rd L 0) (rd L 1) (rd L 2) = [] then (0, 0, 0, 0, false) else if textT (o : Int) (rd L 0) (rd L 1) (rd L 2) = Lib.join W [32] then ((o : Int), rd L 0, rd L 1, rd L 2, true) else (0, 0, 0, 0, false)) := him
    clear him
    rcases hrun with ⟨e1, e2, e3⟩ | ⟨e1, e2⟩
    · rw [e1] at hsl
      have ht : textT (o : Int) (rd L 0) (rd L 1) (rd L 2) = Lib.join W [32] := by
        unfold textT
        rw [if_pos e3, part_join, hwc, e2]
      refine ⟨((o : Int), rd L 0, rd L 1, rd L 2, true), ?_, hspec _ hsl, fun op x y z hok hs => ?_⟩
      · rw [if_neg (by rw [ht]; exact hjne), if_pos ht] at him2
        exact him2
      · obtain ⟨rfl, hj⟩ := hbk op x y z hok hs
        have j0 : rd L 0 = x := hj 0 (by omega)
        have j1 : rd L 1 = y := hj 1 (by omega)
        have j2 : rd L 2 = z := hj 2 (by omega)
        rw [j0, j1, j2]
    · rw [e1] at hsl
      refine ⟨(0, 0, 0, 0, false), ?_, hspec _ hsl, fun op x y z hok hs => ?_⟩
      · by_cases hok : insOkB (o : Int) (rd L 0) (rd L 1) (rd L 2) 32 = true
        · have ht : textT (o : Int) (rd L 0) (rd L 1) (rd L 2) = Lib.join (wordsT (o : Int) L 3) [32] := by
            unfold textT
            rw [if_pos hok, part_join, hwc]
          have hnj : textT (o : Int) (rd L 0) (rd L 1) (rd L 2) ≠ Lib.join W [32] := by
            rw [ht]
            intro q
            exact e2 ⟨join_inj (words_wordB (by omega) (by omega) L 3) (fun w hw => (hwb w hw).1) q, hok⟩
          split at him2 <;> exact him2
        · have ht : textT (o : Int) (rd L 0) (rd L 1) (rd L 2) = [] := by
            unfold textT
            rw [if_neg hok]
          rw [if_pos ht] at him2
          exact him2
      · exfalso
        obtain ⟨rfl, hj⟩ := hbk op x y z hok hs
        have j0 : rd L 0 = x := hj 0 (by omega)
        have j1 : rd L 1 = y := hj 1 (by omega)
        have j2 : rd L 2 = z := hj 2 (by omega)
        have hb := congrArg Prod.fst (back _ x y z hok hs)
        simp only at hb
        refine e2 ⟨?_, by rw [j0, j1, j2]; exact hok⟩
        rw [hb]
        exact words_congr _ 3 hj
  · have hidx : Lib.idxOfS namesT (mkB w0) = -1 := hidx
    have him := himpl ⟨#[]⟩ (-1) (0, 0, 0) hidx rfl (by decide) rfl (by decide) (by decide) (by decide)
    have ht : textT (-1) 0 0 0 = [] := by decide
    simp only [ht] at him
    rw [if_pos trivial] at him
    refine ⟨(0, 0, 0, 0, false), him, hspec _ ?_, fun op x y z hok hs => ?_⟩
    · refine loop_to (fun k n (_ : Unit) => spec_ParseIns.l0 k (W.map mkB) (n : Int)) 17 (fun _ _ => True) _
        (fun n s hn _ => .inl ⟨(), trivial, 0, fun k _ => by
          rw [spec_l0_step _ (by rw [List.length_map]; exact hWl) n (by omega), if_neg (by rw [hg0, name_at]; exact hne n (by rw [names_len]; exact hn))]⟩)
        (fun s _ => ⟨0, fun k _ => by
          rw [spec_ParseIns.l0, if_neg (by decide)]⟩) 0 () (Nat.zero_le _) trivial
    · exfalso
      obtain ⟨q0, q1⟩ := insOk_op hok
      have hb := congrArg Prod.fst (back op x y z hok hs)
      simp only at hb
      obtain ⟨r, hr⟩ := words_cons op [x, y, z] 3
      have h1 : w0 = (nameT op).data.toList := by
        rw [hr, ← hWW] at hb
        injection hb
      refine hne op.toNat (by rw [names_len]; omega) ?_
      rw [← name_at, Int.toNat_of_nonneg q0, h1, mkB_data]
end Go.Proofs.YtionemdnfhcfpaaDoor.HS
/- Whether a program is valid, as the program tells it. No condition. -/
set_option linter.unusedVariables false
set_option linter.unusedSimpArgs false
namespace Go.Proofs.YtionemdnfhcfpaaDoor.HS
open Go Go.RowKit Go.Proofs.YtionemdnfhcfpaaDoorW.PrintWords Go.Proofs.YtionemdnfhcfpaaDoorW.PrintLast Go.Proofs.YtionemdnfhcfpaaDoor.Aid

def okIns (m : Nat) (x : S31) : Bool := insOkB x.f0 x.f1 x.f2 x.f3 (m : Int)
def progB (l : List S31) : Bool := decide (l.length ≤ 32) && l.all (okIns l.length)
theorem rdP_at {l : List S31} {n : Nat} (h : n < l.length) : l[n]? = some (rd_T31 l (n : Int)) := by
  simp [rd_T31, List.getD_eq_getElem?_getD, h]
theorem progOk_val (l : List S31) : impl_ProgramOk.f l = some (progB l) := by
  unfold impl_ProgramOk.f progB
  by_cases h : l.length ≤ 32
  · have hall : l.all (fun x => (impl_InsOk.f x.f0 x.f1 x.f2 x.f3 (l.length : Int)).isSome) = true := by
      rw [List.all_eq_true]; intro x _; rw [insOk_val]; rfl
    rw [if_pos h, if_pos hall]
    simp only [h, decide_true, Bool.true_and]
    congr 1
    rw [List.any_eq_not_all_not, Bool.not_not]
    congr 1
    funext x
    unfold impl_ProgramOk.bad okIns
    rw [insOk_val]
    cases insOkB x.f0 x.f1 x.f2 x.f3 (l.length : Int) <;> rfl
  · rw [if_neg h]
    simp [h]
end Go.Proofs.YtionemdnfhcfpaaDoor.HS
/- Whether a program is valid, as the reference tells it. No condition but a length that fits. -/
set_option linter.unusedVariables false
set_option linter.unusedSimpArgs false
namespace Go.Proofs.YtionemdnfhcfpaaDoor.HS
open Go Go.RowKit Go.Proofs.YtionemdnfhcfpaaDoorW.PrintWords Go.Proofs.YtionemdnfhcfpaaDoorW.PrintLast Go.Proofs.YtionemdnfhcfpaaDoor.Aid
theorem specProgOk_ev (l : List S31) (hl : l.length ≤ 1048576) : Ev (fun k => spec_ProgramOk.f k l) (progB l) := by
  have h := loop_to (fun k n (_ : Unit) => spec_ProgramOk.l0 k l (n : Int)) l.length (fun n _ => ∀ j : Nat, j < n → okIns l.length (rd_T31 l (j : Int)) = true) (progB l)
    (fun n s hn hI => by
      cases hb : okIns l.length (rd_T31 l (n : Int)) with
      | true =>
        refine Or.inl ⟨(), fun j hj => ?_, 2, fun k hk => ?_⟩
        · by_cases e : j = n
          · subst e; exact hb
          · exact hI j (by omega)
        · obtain ⟨k, rfl⟩ : ∃ m, k = m + 2 := ⟨k - 2, by omega⟩
          conv => lhs; unfold spec_ProgramOk.l0
          rw [if_pos (by omega), if_pos (by omega), specInsOk_val, Option.bind_some, if_pos (by exact hb), wrap_succ hn (by omega)]
      | false =>
        refine Or.inr ⟨2, fun k hk => ?_⟩
        obtain ⟨k, rfl⟩ : ∃ m, k = m + 2 := ⟨k - 2, by omega⟩
        unfold spec_ProgramOk.l0
        have hb' : insOkB (rd_T31 l (n : Int)).f0 (rd_T31 l (n : Int)).f1 (rd_T31 l (n : Int)).f2 (rd_T31 l (n : Int)).f3 (l.length : Int) = false := hb
        rw [if_pos (by omega), if_pos (by omega), specInsOk_val, Option.bind_some, if_neg (by rw [hb']; decide)]
        have : l.all (okIns l.length) = false := by
          rw [List.all_eq_false]
          exact ⟨_, List.mem_of_getElem? (rdP_at hn), by rw [hb]; decide⟩
        unfold progB
        rw [this, Bool.and_false])
    (fun s hI => ⟨0, fun k _ => by
      unfold spec_ProgramOk.l0
      rw [if_neg (by omega)]
      have : l.all (okIns l.length) = true := by
        rw [List.all_eq_true]
        intro x hx
        obtain ⟨j, hj, rfl⟩ := List.mem_iff_getElem.1 hx
        have h1 := hI j hj
        have h2 := rdP_at hj
        rw [List.getElem?_eq_getElem hj] at h2
        rw [Option.some.inj h2]
        exact h1
      unfold progB
      rw [this, Bool.and_true]
      congr 1
      simp only [decide_eq_decide]
      omega⟩) 0 () (Nat.zero_le _) (fun j hj => absurd hj (Nat.not_lt_zero _))
  exact Ev.congr (fun k => rfl) h
end Go.Proofs.YtionemdnfhcfpaaDoor.HS
/- The program that lines give, as the program and as the reference read it. No condition but a row of lines that fits. -/
set_option linter.unusedVariables false
set_option linter.unusedSimpArgs false
namespace Go.Proofs.YtionemdnfhcfpaaDoor.HS
open Go Go.RowKit Go.Proofs.YtionemdnfhcfpaaDoorW.PrintWords Go.Proofs.YtionemdnfhcfpaaDoorW.PrintLast Go.Proofs.YtionemdnfhcfpaaDoor.Aid

noncomputable def resB (a : ByteArray) : Int × Int × Int × Int × Bool := (parse_ev a).choose
theorem resB_i (a : ByteArray) : Ev (fun k => impl_ParseIns.f k a) (resB a) := (parse_ev a).choose_spec.1
theorem resB_s (a : ByteArray) : Ev (fun k => spec_ParseIns.f k a) (resB a) := (parse_ev a).choose_spec.2.1
theorem resB_text {op x y z : Int} (h : insOkB op x y z 32 = true) : resB (mkB (textT op x y z)) = (op, x, y, z, true) := (parse_ev _).choose_spec.2.2 op x y z h (mkB_list _)
noncomputable def parseP : List ByteArray → List S31 → List S31 × Bool
  | [], out => if progB out = true then (out, true) else ([], false)
  | a :: rest, out => if (resB a).2.2.2.2 = true then parseP rest (out ++ [⟨(resB a).1, (resB a).2.1, (resB a).2.2.1, (resB a).2.2.2.1⟩]) else ([], false)
theorem parseP_len : ∀ (l : List ByteArray) (out : List S31), (parseP l out).1.length ≤ 32
  | [], out => by
    unfold parseP
    split
    · rename_i h
      unfold progB at h
      rw [Bool.and_eq_true] at h
      exact of_decide_eq_true h.1
    · simp
  | a :: rest, out => by
    unfold parseP
    split
    · exact parseP_len rest _
    · simp
theorem drop_at {l : List ByteArray} {n : Nat} (h : n < l.length) : l.drop n = rdOf ByteArray.empty l (n : Int) :: l.drop (n + 1) := by
  rw [List.drop_eq_getElem_cons h]
  congr 1
  simp [rdOf, List.getD_eq_getElem?_getD, h]
theorem implP_ev (l : List ByteArray) (hl : l.length ≤ 1048576) : ∀ (d n : Nat) (out : List S31), n + d = l.length → out.length = n → Ev (fun k => impl_ParseProgram.l0 k out l (l.length : Int) (n : Int)) (parseP (l.drop n) out)
  | 0, n, out, hn, ho => by
    obtain rfl : n = l.length := by omega
    refine ⟨1, fun k hk => ?_⟩
    obtain ⟨k, rfl⟩ : ∃ j, k = j + 1 := ⟨k - 1, by omega⟩
    show impl_ParseProgram.l0 (k + 1) out l (l.length : Int) (l.length : Int) = some _
    rw [List.drop_length, parseP, impl_ParseProgram.l0, if_neg (by omega), progOk_val, Option.bind_some]
    by_cases h : progB out = true
    · rw [if_pos h, if_pos h]
    · rw [if_neg h, if_neg h]
  | d + 1, n, out, hn, ho => by
    have hlt : n < l.length := by omega
    have hw : wrap64 ((n : Int) + 1) = ((n + 1 : Nat) : Int) := wrap_succ hlt (by omega)
    rw [drop_at hlt, parseP]
    obtain ⟨K1, h1⟩ := resB_i (rdOf ByteArray.empty l (n : Int))
    by_cases h : (resB (rdOf ByteArray.empty l (n : Int))).2.2.2.2 = true
    · rw [if_pos h]
      obtain ⟨K, hK⟩ := implP_ev l hl d (n + 1) (out ++ [⟨(resB (rdOf ByteArray.empty l (n : Int))).1, (resB (rdOf ByteArray.empty l (n : Int))).2.1, (resB (rdOf ByteArray.empty l (n : Int))).2.2.1, (resB (rdOf ByteArray.empty l (n : Int))).2.2.2.1⟩]) (by omega) (by simp [ho])
      refine ⟨K + K1 + 1, fun k hk => ?_⟩
      obtain ⟨k, rfl⟩ : ∃ j, k = j + 1 := ⟨k - 1, by omega⟩
      have e1 : impl_ParseIns.f k (rdOf ByteArray.empty l (n : Int)) = some _ := h1 k (by omega)
      show impl_ParseProgram.l0 (k + 1) out l (l.length : Int) (n : Int) = some _
      rw [impl_ParseProgram.l0, if_pos (by omega), if_pos (by omega), if_pos (by omega), e1, Option.bind_some, if_pos h, if_pos (by omega), hw]
      exact hK k (by omega)
    · rw [if_neg h]
      refine ⟨K1 + 1, fun k hk => ?_⟩
      obtain ⟨k, rfl⟩ : ∃ j, k = j + 1 := ⟨k - 1, by omega⟩
      have e1 : impl_ParseIns.f k (rdOf ByteArray.empty l (n : Int)) = some _ := h1 k (by omega)
      show impl_ParseProgram.l0 (k + 1) out l (l.length : Int) (n : Int) = some _
      rw [impl_ParseProgram.l0, if_pos (by omega), if_pos (by omega), if_pos (by omega), e1, Option.bind_some, if_neg h]
theorem specP_ev (l : List ByteArray) (hl : l.length ≤ 1048576) : ∀ (d n : Nat) (out : List S31), n + d = l.length → out.length = n → Ev (fun k => spec_ParseProgram.l0 k l out (n : Int)) (parseP (l.drop n) out)
  | 0, n, out, hn, ho => by
    obtain rfl : n = l.length := by omega
    obtain ⟨K1, h1⟩ := specProgOk_ev out (by omega)
    refine ⟨K1 + 1, fun k hk => ?_⟩
    obtain ⟨k, rfl⟩ : ∃ j, k = j + 1 := ⟨k - 1, by omega⟩
    have e1 : spec_ProgramOk.f k out = some (progB out) := h1 k (by omega)
    show spec_ParseProgram.l0 (k + 1) l out (l.length : Int) = some _
    rw [List.drop_length, parseP, spec_ParseProgram.l0, if_neg (by omega), e1, Option.bind_some]
    by_cases h : progB out = true
    · rw [if_pos h, if_pos h]
    · rw [if_neg h, if_neg h]
  | d + 1, n, out, hn, ho => by
    have hlt : n < l.length := by omega
    have hw : wrap64 ((n : Int) + 1) = ((n + 1 : Nat) : Int) := wrap_succ hlt (by omega)
    rw [drop_at hlt, parseP]
    obtain ⟨K1, h1⟩ := resB_s (rdOf ByteArray.empty l (n : Int))
    by_cases h : (resB (rdOf ByteArray.empty l (n : Int))).2.2.2.2 = true
    · rw [if_pos h]
      obtain ⟨K, hK⟩ := specP_ev l hl d (n + 1) (out ++ [⟨(resB (rdOf ByteArray.empty l (n : Int))).1, (resB (rdOf ByteArray.empty l (n : Int))).2.1, (resB (rdOf ByteArray.empty l (n : Int))).2.2.1, (resB (rdOf ByteArray.empty l (n : Int))).2.2.2.1⟩]) (by omega) (by simp [ho])
      refine ⟨K + K1 + 1, fun k hk => ?_⟩
      obtain ⟨k, rfl⟩ : ∃ j, k = j + 1 := ⟨k - 1, by omega⟩
      have e1 : spec_ParseIns.f k (rdOf ByteArray.empty l (n : Int)) = some _ := h1 k (by omega)
      show spec_ParseProgram.l0 (k + 1) l out (n : Int) = some _
      rw [spec_ParseProgram.l0, if_pos (by omega), if_pos (by omega), e1, Option.bind_some, if_pos h, if_pos (by omega), hw]
      exact hK k (by omega)
    · rw [if_neg h]
      refine ⟨K1 + 1, fun k hk => ?_⟩
      obtain ⟨k, rfl⟩ : ∃ j, k = j + 1 := ⟨k - 1, by omega⟩
      have e1 : spec_ParseIns.f k (rdOf ByteArray.empty l (n : Int)) = some _ := h1 k (by omega)
      show spec_ParseProgram.l0 (k + 1) l out (n : Int) = some _
      rw [spec_ParseProgram.l0, if_pos (by omega), if_pos (by omega), e1, Option.bind_some, if_neg h]
theorem implProgram_ev (l : List ByteArray) (hl : l.length ≤ 1048576) : Ev (fun k => impl_ParseProgram.f k l) (parseP l []) := implP_ev l hl l.length 0 [] (by omega) rfl
theorem specProgram_ev (l : List ByteArray) (hl : l.length ≤ 1048576) : Ev (fun k => spec_ParseProgram.f k l) (parseP l []) := specP_ev l hl l.length 0 [] (by omega) rfl
end Go.Proofs.YtionemdnfhcfpaaDoor.HS
/- What the laws' loops over rows of instructions and of texts tell: equal rows, a copy, how much is left, marks and that they are held. No condition but lengths that fit. -/
set_option linter.unusedVariables false
set_option linter.unusedSimpArgs false
namespace Go.Proofs.YtionemdnfhcfpaaDoor.HS
open Go Go.RowKit Go.Proofs.YtionemdnfhcfpaaDoorW.PrintWords Go.Proofs.YtionemdnfhcfpaaDoorW.PrintLast Go.Proofs.YtionemdnfhcfpaaDoor.Aid

theorem rdT_at {l : List S31} {n : Nat} (h : n < l.length) : l[n]? = some (rd_T31 l (n : Int)) := by
  simp [rd_T31, List.getD_eq_getElem?_getD, h]
theorem S31.ext_of {x y : S31} (h0 : x.f0 = y.f0) (h1 : x.f1 = y.f1) (h2 : x.f2 = y.f2) (h3 : x.f3 = y.f3) : x = y := by
  cases x; cases y; simp_all
open Classical in
theorem eqIns_val (x y : S31) : laws_eqIns.f x.f0 x.f1 x.f2 x.f3 y.f0 y.f1 y.f2 y.f3 = some (decide (x = y)) := by
  unfold laws_eqIns.f
  by_cases h0 : x.f0 = y.f0
  · by_cases h1 : x.f1 = y.f1
    · by_cases h2 : x.f2 = y.f2
      · by_cases h3 : x.f3 = y.f3
        · have := S31.ext_of h0 h1 h2 h3
          simp [this]
        · have : x ≠ y := fun h => h3 (by rw [h])
          simp [h0, h1, h2, h3, this]
      · have : x ≠ y := fun h => h2 (by rw [h])
        simp [h0, h1, h2, this]
    · have : x ≠ y := fun h => h1 (by rw [h])
      simp [h0, h1, this]
  · have : x ≠ y := fun h => h0 (by rw [h])
    simp [h0, this]
open Classical in
theorem eqInsS_ev (a b : List S31) (hl : a.length ≤ 1048576) : Ev (fun k => laws_eqInsS.f k a b) (decide (a = b)) := by
  by_cases hlen : a.length = b.length
  · have h := loop_to (fun k n (_ : Unit) => laws_eqInsS.l0 k a b (n : Int)) a.length (fun n _ => ∀ j, j < n → a[j]? = b[j]?) (decide (a = b))
      (fun n s hn hI => by
        by_cases e : rd_T31 a (n : Int) = rd_T31 b (n : Int)
        · refine Or.inl ⟨(), fun j hj => ?_, 0, fun k _ => ?_⟩
          · by_cases hjn : j = n
            · subst hjn; rw [rdT_at hn, rdT_at (by omega), e]
            · exact hI j (by omega)
          · simp only [laws_eqInsS.l0]
            rw [if_pos (by omega), if_pos (by omega), if_pos (by omega), eqIns_val, Option.bind_some, if_pos (by simpa using e), wrap_succ hn (by omega)]
        · refine Or.inr ⟨0, fun k _ => ?_⟩
          simp only [laws_eqInsS.l0]
          rw [if_pos (by omega), if_pos (by omega), if_pos (by omega), eqIns_val, Option.bind_some, if_neg (by simpa using e)]
          have : a ≠ b := fun h => e (by rw [h])
          simp [this])
      (fun s hI => ⟨0, fun k _ => by
        simp only [laws_eqInsS.l0]
        rw [if_neg (by omega)]
        have : a = b := all_upto hlen (fun j hj => hI j (by omega))
        simp [this]⟩) 0 () (Nat.zero_le _) (fun j hj => absurd hj (Nat.not_lt_zero _))
    refine Ev.congr (fun k => ?_) h
    unfold laws_eqInsS.f
    rw [if_pos (by omega)]
    rfl
  · have : a ≠ b := fun h => hlen (by rw [h])
    refine Ev.congr (fun k => ?_) (ev_some _)
    unfold laws_eqInsS.f
    rw [if_neg (by omega)]
    simp [this]
theorem eqInsS_same (a : List S31) (hl : a.length ≤ 1048576) : Ev (fun k => laws_eqInsS.f k a a) true := by
  have := eqInsS_ev a a hl
  simpa using this
theorem rd_setT {s : List S31} {n : Nat} (h : n < s.length) (v : S31) : rd_T31 (s.set n v) (n : Int) = v := by
  have := rdT_at (l := s.set n v) (n := n) (by simpa using h)
  rw [List.getElem?_set_self h] at this
  exact (Option.some.inj this).symm
def markI (n : Nat) : S31 := ⟨((4 * n + 1 : Nat) : Int), ((4 * n + 2 : Nat) : Int), ((4 * n + 3 : Nat) : Int), ((4 * n + 4 : Nat) : Int)⟩
def marksI (n : Nat) : List S31 := (List.range n).map markI
theorem marksI_at {n j : Nat} (h : j < n) : (marksI n)[j]? = some (markI j) := by simp [marksI, h]
theorem marksI_len (n : Nat) : (marksI n).length = n := by simp [marksI]
theorem markInsS_all (l : List S31) (hl : l.length ≤ 1048576) : Ev (fun k => laws_markInsS.f k l 1) (((4 * l.length + 1 : Nat) : Int), marksI l.length) := by
  have h := loop_to (fun k n (s : List S31) => laws_markInsS.l0 k s ((4 * n + 1 : Nat) : Int) (n : Int)) l.length (fun n s => s.length = l.length ∧ ∀ j, j < n → s[j]? = (marksI l.length)[j]?) (((4 * l.length + 1 : Nat) : Int), marksI l.length)
    (fun n s hn hI => Or.inl ⟨s.set n (markI n), (by
      have := set_upto (l := marksI l.length) (x := markI n) (by rw [marksI_len]; exact hI.1) (by rw [marksI_len]; exact hn) hI.2 (marksI_at hn)
      rw [marksI_len] at this
      exact this), 0, fun k _ => by
        have w1 : wrap64 (((4 * n + 1 : Nat) : Int) + 1) = ((4 * n + 2 : Nat) : Int) := wrap_succ (n := 4 * n + 1) (N := 4 * l.length + 9) (by omega) (by omega)
        have w2 : wrap64 (((4 * n + 2 : Nat) : Int) + 1) = ((4 * n + 3 : Nat) : Int) := wrap_succ (n := 4 * n + 2) (N := 4 * l.length + 9) (by omega) (by omega)
        have w3 : wrap64 (((4 * n + 3 : Nat) : Int) + 1) = ((4 * n + 4 : Nat) : Int) := wrap_succ (n := 4 * n + 3) (N := 4 * l.length + 9) (by omega) (by omega)
        have w4 : wrap64 (((4 * n + 4 : Nat) : Int) + 1) = ((4 * (n + 1) + 1 : Nat) : Int) := wrap_succ (n := 4 * n + 4) (N := 4 * l.length + 9) (by omega) (by omega)
        have w5 : wrap64 ((n : Int) + 1) = ((n + 1 : Nat) : Int) := wrap_succ hn (by omega)
        have hs : s.length = l.length := hI.1
        have hns : n < s.length := by omega
        have r1 := fun v => rd_setT (s := s) hns v
        simp only [laws_markInsS.l0]
        rw [if_pos (by omega), if_pos (by omega)]
        simp only [Option.bind_some, w1, w2, w3, w4, w5, Int.toNat_natCast, List.set_set, r1]
        rfl⟩)
    (fun s hI => ⟨0, fun k _ => by
      have hs : s.length = l.length := hI.1
      simp only [laws_markInsS.l0]
      rw [if_neg (by omega), all_upto (l := marksI l.length) (by rw [marksI_len]; exact hI.1) (fun j hj => hI.2 j (by rw [marksI_len] at hj; exact hj))]⟩) 0 l (Nat.zero_le _) ⟨rfl, fun j hj => absurd hj (Nat.not_lt_zero _)⟩
  exact Ev.congr (fun k => rfl) h
theorem heldInsS_ev (m : Nat) (hl : m ≤ 1048576) : Ev (fun k => laws_heldInsS.f k (marksI m) 1) ((4 * m + 1 : Nat) : Int) := by
  have h := loop_to (fun k n (_ : Unit) => laws_heldInsS.l0 k (marksI m) ((4 * n + 1 : Nat) : Int) (n : Int)) m (fun _ _ => True) ((4 * m + 1 : Nat) : Int)
    (fun n s hn _ => Or.inl ⟨(), trivial, 0, fun k _ => by
      have w1 : wrap64 (((4 * n + 1 : Nat) : Int) + 1) = ((4 * n + 2 : Nat) : Int) := wrap_succ (n := 4 * n + 1) (N := 4 * m + 9) (by omega) (by omega)
      have w2 : wrap64 (((4 * n + 2 : Nat) : Int) + 1) = ((4 * n + 3 : Nat) : Int) := wrap_succ (n := 4 * n + 2) (N := 4 * m + 9) (by omega) (by omega)
      have w3 : wrap64 (((4 * n + 3 : Nat) : Int) + 1) = ((4 * n + 4 : Nat) : Int) := wrap_succ (n := 4 * n + 3) (N := 4 * m + 9) (by omega) (by omega)
      have w4 : wrap64 (((4 * n + 4 : Nat) : Int) + 1) = ((4 * (n + 1) + 1 : Nat) : Int) := wrap_succ (n := 4 * n + 4) (N := 4 * m + 9) (by omega) (by omega)
      have w5 : wrap64 ((n : Int) + 1) = ((n + 1 : Nat) : Int) := wrap_succ hn (by omega)
      have hs := marksI_len m
      have hr : rd_T31 (marksI m) (n : Int) = markI n := by
        have := rdT_at (l := marksI m) (n := n) (by omega)
        rw [marksI_at hn] at this
        exact (Option.some.inj this).symm
      simp only [laws_heldInsS.l0, hr, w1, w2, w3, w4, w5]
      rw [if_pos (by omega), if_pos (by omega)]
      exact (if_pos rfl).trans ((if_pos rfl).trans ((if_pos rfl).trans (if_pos rfl)))⟩)
    (fun s _ => ⟨0, fun k _ => by
      have hs := marksI_len m
      simp only [laws_heldInsS.l0]
      rw [if_neg (by omega)]⟩) 0 () (Nat.zero_le _) trivial
  exact Ev.congr (fun k => rfl) h
theorem toStringS_ev (l : List ByteArray) (hl : l.length ≤ 1048576) : Ev (fun k => laws_toStringS.f k l) l := by
  have h := loop_to (fun k n (s : List ByteArray) => laws_toStringS.l0 k l s (n : Int)) l.length (fun n s => s.length = l.length ∧ ∀ j, j < n → s[j]? = l[j]?) l
    (fun n s hn hI => Or.inl ⟨s.set n (rdOf ByteArray.empty l (n : Int)), set_upto hI.1 hn hI.2 (by simp [rdOf, List.getD_eq_getElem?_getD, hn]), 0, fun k _ => by
      have hs := hI.1
      simp only [laws_toStringS.l0]
      rw [if_pos (by omega), if_pos (by omega), if_pos (by omega), wrap_succ hn (by omega), Int.toNat_natCast]⟩)
    (fun s hI => ⟨0, fun k _ => by
      have hs := hI.1
      simp only [laws_toStringS.l0]
      rw [if_neg (by omega), all_upto hI.1 (fun j hj => hI.2 j hj)]⟩) 0 (List.replicate l.length (⟨#[]⟩ : ByteArray)) (Nat.zero_le _) ⟨by simp, fun j hj => absurd hj (Nat.not_lt_zero _)⟩
  refine Ev.congr (fun k => ?_) h
  unfold laws_toStringS.f
  rw [if_pos (by omega), if_pos (by omega), Int.toNat_natCast]
  rfl
/-- How much room is left: if any is, the row is short. -/
theorem szStringS_ev (l : List ByteArray) (hl : l.length ≤ 8796093022208) (hs : ∀ x ∈ l, x.size ≤ 9223372036854775807) : ∃ v : Int, (v < 0 ∨ l.length ≤ 1048576) ∧ Ev (fun k => laws_szStringS.f k l 1048576) v := by
  have w0 : wrap64 (1048576 - (l.length : Int)) = 1048576 - (l.length : Int) := wrap_id (by omega) (by omega)
  by_cases h0 : 1048576 - (l.length : Int) < 0
  · refine ⟨-1, .inl (by decide), Ev.congr (fun k => ?_) (ev_some _)⟩
    unfold laws_szStringS.f
    rw [w0, if_pos h0]
  · have h := loop_ev (fun k n (v : Int) => laws_szStringS.l0 k l v (n : Int)) l.length (fun n v => 0 ≤ v ∧ v ≤ 1048576) (fun _ => True)
      (fun n v hn hI => by
        have hm : rdOf ByteArray.empty l (n : Int) ∈ l := List.mem_of_getElem? (show l[n]? = some _ from by simp [rdOf, List.getD_eq_getElem?_getD, hn])
        have hz := hs _ hm
        have w1 : wrap64 (v - ((rdOf ByteArray.empty l (n : Int)).size : Int)) = v - ((rdOf ByteArray.empty l (n : Int)).size : Int) := wrap_id (by omega) (by omega)
        by_cases h1 : v - ((rdOf ByteArray.empty l (n : Int)).size : Int) < 0
        · refine Or.inr ⟨-1, trivial, 0, fun k _ => ?_⟩
          simp only [laws_szStringS.l0, w1]
          rw [if_pos (by omega), if_pos (by omega), if_pos h1]
        · refine Or.inl ⟨v - ((rdOf ByteArray.empty l (n : Int)).size : Int), ⟨by omega, by omega⟩, 0, fun k _ => ?_⟩
          simp only [laws_szStringS.l0, w1]
          rw [if_pos (by omega), if_pos (by omega), if_neg h1, wrap_succ hn (by omega)])
      (fun v _ => ⟨v, trivial, 0, fun k _ => by
        simp only [laws_szStringS.l0]
        rw [if_neg (by omega)]⟩) 0 (1048576 - (l.length : Int)) (Nat.zero_le _) ⟨by omega, by omega⟩
    obtain ⟨r, _, he⟩ := h
    refine ⟨r, .inr (by omega), Ev.congr (fun k => ?_) he⟩
    unfold laws_szStringS.f
    rw [w0, if_neg h0]
    rfl
end Go.Proofs.YtionemdnfhcfpaaDoor.HS
/- What the laws' loops over rows of strings tell: whether two rows are equal; marks. No condition but lengths that fit. -/
set_option linter.unusedVariables false
set_option linter.unusedSimpArgs false
namespace Go.Proofs.YtionemdnfhcfpaaDoor.HS
open Go Go.RowKit Go.Proofs.YtionemdnfhcfpaaDoorW.PrintWords Go.Proofs.YtionemdnfhcfpaaDoorW.PrintLast Go.Proofs.YtionemdnfhcfpaaDoor.Aid

theorem rdS_at {l : List ByteArray} {n : Nat} (h : n < l.length) : l[n]? = some (rdOf ByteArray.empty l (n : Int)) := by
  simp [rdOf, List.getD_eq_getElem?_getD, h]
theorem eqStringS_same (a : List ByteArray) (hl : a.length ≤ 1048576) : Ev (fun k => laws_eqStringS.f k a a) true := by
  have h := loop_to (fun k n (_ : Unit) => laws_eqStringS.l0 k a a (n : Int)) a.length (fun _ _ => True) true
    (fun n s hn _ => Or.inl ⟨(), trivial, 0, fun k _ => by
      simp only [laws_eqStringS.l0]
      rw [if_pos (by omega), if_pos (by omega), if_pos (by omega), if_pos trivial, wrap_succ hn (by omega)]⟩)
    (fun s _ => ⟨0, fun k _ => by
      simp only [laws_eqStringS.l0]
      rw [if_neg (by omega)]⟩) 0 () (Nat.zero_le _) trivial
  refine Ev.congr (fun k => ?_) h
  unfold laws_eqStringS.f
  rw [if_pos rfl]
  rfl
/-- The mark of a number: some text, the same each time. -/
theorem markText_ok : ∀ (d : Nat) (n : Int) (s : ByteArray), n.toNat ≤ d → d ≤ 4611686018427387904 → s.size + d ≤ 4611686018427387905 → ∃ t : ByteArray, Ev (fun k => laws_markText.l0 k n s) t := by
  intro d
  induction d using Nat.strongRecOn with
  | _ d ih =>
    intro n s hn hd hs
    by_cases h : n > 0
    · have hq : n.tdiv 10 = n / 10 := Int.tdiv_eq_ediv_of_nonneg (by omega)
      have hone : ∀ x : Int, (strOfNums [x]).size = 1 := fun x => rfl
      obtain ⟨t, K, hK⟩ := ih (d - 1) (by omega) (n / 10) (strOfNums [(wrap64 (48 + (Int.tmod n 10))) % 256] ++ s) (by omega) (by omega) (by rw [ByteArray.size_append, hone]; omega)
      refine ⟨t, K + 1, fun k hk => ?_⟩
      obtain ⟨k, rfl⟩ : ∃ j, k = j + 1 := ⟨k - 1, by omega⟩
      have e : laws_markText.l0 k (n / 10) (strOfNums [(wrap64 (48 + (Int.tmod n 10))) % 256] ++ s) = some t := hK k (by omega)
      show laws_markText.l0 (k + 1) n s = some t
      simp only [laws_markText.l0]
      rw [if_pos h, Option.bind_some, if_pos (by rw [hone]; omega), hq, wrap_id (by omega) (by omega), e]
    · refine ⟨(⟨#[109]⟩ : ByteArray) ++ s, 1, fun k hk => ?_⟩
      obtain ⟨k, rfl⟩ : ∃ j, k = j + 1 := ⟨k - 1, by omega⟩
      show laws_markText.l0 (k + 1) n s = some _
      simp only [laws_markText.l0]
      rw [if_neg h, if_pos (by omega)]
theorem markOne (n : Nat) (hn : n ≤ 4611686018427387904) : ∃ t : ByteArray, Ev (fun k => laws_markText.f k (n : Int)) t := by
  by_cases h : n = 0
  · subst h
    refine ⟨⟨#[109, 48]⟩, Ev.congr (fun k => ?_) (ev_some _)⟩
    unfold laws_markText.f
    rw [if_pos (by decide)]
  · obtain ⟨t, ht⟩ := markText_ok n (n : Int) ⟨#[]⟩ (by omega) hn (by show 0 + n ≤ _; omega)
    refine ⟨t, Ev.congr (fun k => ?_) ht⟩
    unfold laws_markText.f
    rw [if_neg (by omega)]
open Classical in
noncomputable def mk_ (n : Nat) : ByteArray := if h : n ≤ 4611686018427387904 then (markOne n h).choose else ⟨#[]⟩
theorem mk_ev {n : Nat} (h : n ≤ 4611686018427387904) : Ev (fun k => laws_markText.f k (n : Int)) (mk_ n) := by
  unfold mk_
  rw [dif_pos h]
  exact (markOne n h).choose_spec
noncomputable def marks (n : Nat) : List ByteArray := (List.range n).map fun j => mk_ (j + 1)
theorem marks_at {n j : Nat} (h : j < n) : (marks n)[j]? = some (mk_ (j + 1)) := by simp [marks, h]
theorem marks_len (n : Nat) : (marks n).length = n := by simp [marks]
theorem markStringS_ev (l : List ByteArray) (hl : l.length ≤ 1048576) : Ev (fun k => laws_markStringS.f k l 1) (((l.length + 1 : Nat) : Int), marks l.length) := by
  have h := loop_to (fun k n (s : List ByteArray) => laws_markStringS.l0 k s ((n + 1 : Nat) : Int) (n : Int)) l.length (fun n s => s.length = l.length ∧ ∀ j, j < n → s[j]? = (marks l.length)[j]?) (((l.length + 1 : Nat) : Int), marks l.length)
    (fun n s hn hI => Or.inl ⟨s.set n (mk_ (n + 1)), (by
      have := set_upto (l := marks l.length) (x := mk_ (n + 1)) (by rw [marks_len]; exact hI.1) (by rw [marks_len]; exact hn) hI.2 (marks_at hn)
      rw [marks_len] at this
      exact this), by
      obtain ⟨K, hK⟩ := mk_ev (n := n + 1) (by omega)
      refine ⟨K, fun k hk => ?_⟩
      have e : laws_markText.f k ((n + 1 : Nat) : Int) = some (mk_ (n + 1)) := hK k hk
      have hs := hI.1
      simp only [laws_markStringS.l0]
      rw [if_pos (by omega), e, Option.bind_some, if_pos (by omega), wrap_succ hn (by omega), Int.toNat_natCast, wrap_succ (n := n + 1) (N := l.length + 1) (by omega) (by omega)]⟩)
    (fun s hI => ⟨0, fun k _ => by
      simp only [laws_markStringS.l0]
      have hs := hI.1
      rw [if_neg (by omega), all_upto (l := marks l.length) (by rw [marks_len]; exact hI.1) (fun j hj => hI.2 j (by rw [marks_len] at hj; exact hj))]⟩) 0 l (Nat.zero_le _) ⟨rfl, fun j hj => absurd hj (Nat.not_lt_zero _)⟩
  exact Ev.congr (fun k => rfl) h
end Go.Proofs.YtionemdnfhcfpaaDoor.HS
