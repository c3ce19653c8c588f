/- The fields of a line, joined by single spaces, have the same fields, whatever line is drawn. -/
import Derived.Test.YtionemdnfhcfpaaDoorHQFnFieldsAgainStmt
import Derived.Test.YtionemdnfhcfpaaDoorAid
import Derived.Test.YtionemdnfhcfpaaDoorLoopAid
import Derived.Test.YtionemdnfhcfpaaDoorFmtHQ
import Derived.Test.YtionemdnfhcfpaaDoorSplitTHQ
import Derived.Test.YtionemdnfhcfpaaDoorPickHQ
import Derived.Test.YtionemdnfhcfpaaDoorLongTHQ
set_option linter.unusedVariables false
set_option linter.unusedSimpArgs false
namespace Go.Proofs.YtionemdnfhcfpaaDoor.Pure
open Go.RowKit Go.Proofs.YtionemdnfhcfpaaDoor.HQ Go.Proofs.YtionemdnfhcfpaaDoorW.PrintWords Go.Proofs.YtionemdnfhcfpaaDoorW.PrintLast Go.Proofs.YtionemdnfhcfpaaDoor.Aid

theorem draw_l1 {b : List Int} (hb : b.length ≤ 140737488351232) {N n : Nat} (hn : n < N) (hN : N ≤ 30)
    (ih : ∀ (t : ByteArray) (i h : Int), Rok b i → t.size ≤ 8 * (n + 1) → ∃ s, Ev (fun k => spec_DrawSplitFields.l0 k (N : Int) t ((n + 1 : Nat) : Int) b i h) s) :
    ∀ (d m : Nat), m + d = 5 → ∀ (t : ByteArray) (i h : Int), Rok b i → t.size ≤ 8 * n + 3 + m → ∃ s, Ev (fun k => spec_DrawSplitFields.l1 k (N : Int) t (n : Int) (m : Int) b i h) s := by
  have hw := wrap_succ hn (by omega)
  intro d
  induction d with
  | zero =>
    intro m hm t i h hi ht
    obtain ⟨y, i1, g1, e1, y0, y1, _, hi1⟩ := below_ok (h := h) hb hi 5
    have y1 := y1 (by decide)
    obtain ⟨s, K, hK⟩ := ih t i1 g1 hi1 (by omega)
    refine ⟨s, K + 1, fun k hk => ?_⟩
    obtain ⟨k, rfl⟩ : ∃ j, k = j + 1 := ⟨k - 1, by omega⟩
    show spec_DrawSplitFields.l1 (k + 1) (N : Int) t (n : Int) (m : Int) b i h = some s
    simp only [spec_DrawSplitFields.l1]
    rw [e1, Option.bind_some, if_neg (by omega), hw]
    exact hK k (by omega)
  | succ d ihd =>
    intro m hm t i h hi ht
    obtain ⟨y, i1, g1, e1, y0, y1, _, hi1⟩ := below_ok (h := h) hb hi 5
    by_cases hmy : (m : Int) ≤ y
    · obtain ⟨z, i2, g2, e2, _, _, _, hi2⟩ := below_ok (h := g1) hb hi1 94
      have hsz : (strOfNums [(wrap64 (33 + z)) % 256]).size = 1 := nums_size _
      obtain ⟨s, K, hK⟩ := ihd (m + 1) (by omega) (t ++ strOfNums [(wrap64 (33 + z)) % 256]) i2 g2 hi2 (by rw [ByteArray.size_append, hsz]; omega)
      refine ⟨s, K + 1, fun k hk => ?_⟩
      obtain ⟨k, rfl⟩ : ∃ j, k = j + 1 := ⟨k - 1, by omega⟩
      show spec_DrawSplitFields.l1 (k + 1) (N : Int) t (n : Int) (m : Int) b i h = some s
      simp only [spec_DrawSplitFields.l1]
      rw [e1, Option.bind_some, if_pos hmy, e2, Option.bind_some, Option.bind_some, if_pos (by rw [hsz]; omega), wrap_succ (n := m) (N := 5) (by omega) (by omega)]
      exact hK k (by omega)
    · obtain ⟨s, K, hK⟩ := ih t i1 g1 hi1 (by omega)
      refine ⟨s, K + 1, fun k hk => ?_⟩
      obtain ⟨k, rfl⟩ : ∃ j, k = j + 1 := ⟨k - 1, by omega⟩
      show spec_DrawSplitFields.l1 (k + 1) (N : Int) t (n : Int) (m : Int) b i h = some s
      simp only [spec_DrawSplitFields.l1]
      rw [e1, Option.bind_some, if_neg hmy, hw]
      exact hK k (by omega)
theorem draw_j2 {b : List Int} (hb : b.length ≤ 140737488351232) {N n : Nat} (hn : n < N) (hN : N ≤ 30)
    (ih : ∀ (t : ByteArray) (i h : Int), Rok b i → t.size ≤ 8 * (n + 1) → ∃ s, Ev (fun k => spec_DrawSplitFields.l0 k (N : Int) t ((n + 1 : Nat) : Int) b i h) s)
    (x : Bool) (t : ByteArray) (i h : Int) (hi : Rok b i) (ht : t.size ≤ 8 * n) : ∃ s, Ev (fun k => spec_DrawSplitFields.j2 k (N : Int) t (n : Int) x b i h) s := by
  cases x with
  | false =>
    obtain ⟨s, K, hK⟩ := draw_l1 hb hn hN ih 5 0 (by omega) t i h hi (by omega)
    refine ⟨s, K + 2, fun k hk => ?_⟩
    obtain ⟨k, rfl⟩ : ∃ j, k = j + 2 := ⟨k - 2, by omega⟩
    show spec_DrawSplitFields.j2 (k + 2) (N : Int) t (n : Int) false b i h = some s
    simp only [spec_DrawSplitFields.j2, spec_DrawSplitFields.j3]
    rw [if_neg (by decide)]
    exact hK k (by omega)
  | true =>
    obtain ⟨y, i1, g1, e1, y0, y1, _, hi1⟩ := below_ok (h := h) hb hi 2
    have y1 := y1 (by decide)
    obtain ⟨z, i2, g2, e2, z0, z1, _, hi2⟩ := below_ok (h := g1) hb hi1 3
    have z1 := z1 (by decide)
    have hm : ∃ m : Nat, m ≤ 3 ∧ wrap64 (1 + wrap64 (y * z)) = (m : Int) := by
      have hy : y = 0 ∨ y = 1 := by omega
      rcases hy with rfl | rfl
      · exact ⟨1, by omega, by rw [Int.zero_mul]; unfold wrap64; omega⟩
      · refine ⟨1 + z.toNat, by omega, ?_⟩
        rw [Int.one_mul, wrap_id (n := z) (by omega) (by omega), wrap_id (by omega) (by omega)]; omega
    obtain ⟨m, hm, ew⟩ := hm
    obtain ⟨u, hu, K1, h1⟩ := long_ok m (by omega) 32
    obtain ⟨s, K, hK⟩ := draw_l1 hb hn hN ih 5 0 (by omega) (t ++ u) i2 g2 hi2 (by rw [ByteArray.size_append]; omega)
    refine ⟨s, K1 + K + 2, fun k hk => ?_⟩
    obtain ⟨k, rfl⟩ : ∃ j, k = j + 2 := ⟨k - 2, by omega⟩
    have el : spec_l01Long.f (k + 1) (m : Int) 32 = some u := h1 (k + 1) (by omega)
    show spec_DrawSplitFields.j2 (k + 2) (N : Int) t (n : Int) true b i h = some s
    simp only [spec_DrawSplitFields.j2, spec_DrawSplitFields.j3]
    rw [if_pos trivial, e1, Option.bind_some, e2, Option.bind_some, ew, el, Option.bind_some, if_pos (by omega)]
    exact hK k (by omega)
theorem pickB_ok {b : List Int} (hb : b.length ≤ 140737488351232) {i h : Int} (hi : Rok b i) (l : List ByteArray) (hl : 0 < l.length) : ∃ x i' h', spec_l01Pick.f b i h l = some (x, i', h') ∧ x ∈ l := by
  unfold spec_l01Pick.f
  obtain ⟨n, i', h', e, h0, h1, _, hi'⟩ := below_ok (h := h) hb hi (l.length : Int)
  have h1 := h1 (by omega)
  rw [e, Option.bind_some, if_pos h0, if_pos h1]
  refine ⟨_, _, _, rfl, ?_⟩
  unfold rdOf
  have hlt : n.toNat < l.length := by omega
  rw [List.getD_eq_getElem?_getD, List.getElem?_eq_getElem hlt]
  exact List.getElem_mem hlt
theorem draw_l0 {b : List Int} (hb : b.length ≤ 140737488351232) {N : Nat} (hN : N ≤ 30) : ∀ (d n : Nat), n + d = N → ∀ (t : ByteArray) (i h : Int), Rok b i → t.size ≤ 8 * n → ∃ s, Ev (fun k => spec_DrawSplitFields.l0 k (N : Int) t (n : Int) b i h) s := by
  intro d
  induction d with
  | zero =>
    intro n hn t i h hi ht
    obtain ⟨x, i1, g1, e1, x0, x1, _, hi1⟩ := below_ok (h := h) hb hi 12
    by_cases hx0 : x = 0
    · obtain ⟨u, i2, g2, e2, hu⟩ := pickB_ok (h := g1) hb hi1 [(⟨#[32]⟩ : ByteArray), (⟨#[32, 32]⟩ : ByteArray), (⟨#[9]⟩ : ByteArray), (⟨#[10]⟩ : ByteArray), (⟨#[127]⟩ : ByteArray), (⟨#[233]⟩ : ByteArray)] (by decide)
      have hs : ∀ v ∈ [(⟨#[32]⟩ : ByteArray), (⟨#[32, 32]⟩ : ByteArray), (⟨#[9]⟩ : ByteArray), (⟨#[10]⟩ : ByteArray), (⟨#[127]⟩ : ByteArray), (⟨#[233]⟩ : ByteArray)], v.size ≤ 2 := by decide
      have hu2 := hs u hu
      refine ⟨t ++ u, 1, fun k hk => ?_⟩
      obtain ⟨k, rfl⟩ : ∃ j, k = j + 1 := ⟨k - 1, by omega⟩
      show spec_DrawSplitFields.l0 (k + 1) (N : Int) t (n : Int) b i h = some _
      simp only [spec_DrawSplitFields.l0]
      rw [if_neg (by omega), e1, Option.bind_some, if_pos hx0, e2, Option.bind_some, if_pos (show t.size + u.size ≤ 9223372036854775807 by omega)]
    · by_cases hx1 : x = 1
      · by_cases h6 : (t.size : Int) < 600
        · obtain ⟨y, i2, g2, e2, y0, y1, _, hi2⟩ := below_ok (h := g1) hb hi1 2
          have y1 := y1 (by decide)
          have ew : wrap64 (wrap64 (600 - (t.size : Int)) + y) = ((600 - t.size + y.toNat : Nat) : Int) := by
            rw [wrap_id (n := 600 - (t.size : Int)) (by omega) (by omega), wrap_id (by omega) (by omega)]; omega
          obtain ⟨u, hu, K, hK⟩ := long_ok (600 - t.size + y.toNat) (by omega) 32
          refine ⟨t ++ u, K + 1, fun k hk => ?_⟩
          obtain ⟨k, rfl⟩ : ∃ j, k = j + 1 := ⟨k - 1, by omega⟩
          have el : spec_l01Long.f k ((600 - t.size + y.toNat : Nat) : Int) 32 = some u := hK k (by omega)
          show spec_DrawSplitFields.l0 (k + 1) (N : Int) t (n : Int) b i h = some _
          simp only [spec_DrawSplitFields.l0]
          rw [if_neg (by omega), e1, Option.bind_some, if_neg hx0, if_pos hx1, if_pos h6, e2, Option.bind_some, ew, el, Option.bind_some, if_pos (by omega)]
        · refine ⟨t, 1, fun k hk => ?_⟩
          obtain ⟨k, rfl⟩ : ∃ j, k = j + 1 := ⟨k - 1, by omega⟩
          show spec_DrawSplitFields.l0 (k + 1) (N : Int) t (n : Int) b i h = some _
          simp only [spec_DrawSplitFields.l0]
          rw [if_neg (by omega), e1, Option.bind_some, if_neg hx0, if_pos hx1, if_neg h6]
      · refine ⟨t, 1, fun k hk => ?_⟩
        obtain ⟨k, rfl⟩ : ∃ j, k = j + 1 := ⟨k - 1, by omega⟩
        show spec_DrawSplitFields.l0 (k + 1) (N : Int) t (n : Int) b i h = some _
        simp only [spec_DrawSplitFields.l0]
        rw [if_neg (by omega), e1, Option.bind_some, if_neg hx0, if_neg hx1]
  | succ d ihd =>
    intro n hn t i h hi ht
    have ih := fun t i h hi ht => ihd (n + 1) (by omega) t i h hi ht
    by_cases h0 : (n : Int) > 0
    · obtain ⟨s, K, hK⟩ := draw_j2 hb (show n < N by omega) hN ih true t i h hi ht
      refine ⟨s, K + 1, fun k hk => ?_⟩
      obtain ⟨k, rfl⟩ : ∃ j, k = j + 1 := ⟨k - 1, by omega⟩
      show spec_DrawSplitFields.l0 (k + 1) (N : Int) t (n : Int) b i h = some _
      simp only [spec_DrawSplitFields.l0]
      rw [if_pos (by omega), if_pos h0]
      exact hK k (by omega)
    · obtain ⟨x, i1, g1, e1, hi1⟩ := once_ok (h := h) hb hi 5
      obtain ⟨s, K, hK⟩ := draw_j2 hb (show n < N by omega) hN ih x t i1 g1 hi1 ht
      refine ⟨s, K + 1, fun k hk => ?_⟩
      obtain ⟨k, rfl⟩ : ∃ j, k = j + 1 := ⟨k - 1, by omega⟩
      show spec_DrawSplitFields.l0 (k + 1) (N : Int) t (n : Int) b i h = some _
      simp only [spec_DrawSplitFields.l0]
      rw [if_pos (by omega), if_neg h0, e1, Option.bind_some]
      exact hK k (by omega)
theorem draw_line (b : List Int) (hb : b.length ≤ 140737488351232) : ∃ s, Ev (fun k => spec_DrawSplitFields.f k b) s := by
  obtain ⟨i, h, ⟨K0, h0⟩, hi⟩ := new_ok b
  obtain ⟨x, i1, g1, e1, x0, x1, _, hi1⟩ := below_ok (h := h) hb hi 9
  have x1 := x1 (by decide)
  obtain ⟨y, i2, g2, e2, hi2⟩ := once_ok (h := g1) hb hi1 15
  cases y with
  | true =>
    obtain ⟨z, i3, g3, e3, z0, z1, _, hi3⟩ := below_ok (h := g2) hb hi2 2
    have z1 := z1 (by decide)
    have ew : wrap64 (24 + z) = ((24 + z.toNat : Nat) : Int) := by rw [wrap_id (by omega) (by omega)]; omega
    obtain ⟨s, K, hK⟩ := draw_l0 hb (N := 24 + z.toNat) (by omega) (24 + z.toNat) 0 (by omega) ⟨#[]⟩ i3 g3 hi3 (by decide)
    refine ⟨s, K0 + K + 1, fun k hk => ?_⟩
    obtain ⟨k, rfl⟩ : ∃ j, k = j + 1 := ⟨k - 1, by omega⟩
    have f0 : spec_l01New.f (k + 1) b = some (b, i, h) := h0 (k + 1) (by omega)
    show spec_DrawSplitFields.f (k + 1) b = some _
    unfold spec_DrawSplitFields.f
    simp only [f0, e1, e2, e3, Option.bind_some, if_true, ew, spec_DrawSplitFields.j0]
    exact hK k (by omega)
  | false =>
    have hx : x = ((x.toNat : Nat) : Int) := by omega
    obtain ⟨s, K, hK⟩ := draw_l0 hb (N := x.toNat) (by omega) x.toNat 0 (by omega) ⟨#[]⟩ i2 g2 hi2 (by decide)
    refine ⟨s, K0 + K + 1, fun k hk => ?_⟩
    obtain ⟨k, rfl⟩ : ∃ j, k = j + 1 := ⟨k - 1, by omega⟩
    have f0 : spec_l01New.f (k + 1) b = some (b, i, h) := h0 (k + 1) (by omega)
    have g := hK k (by omega)
    rw [← hx] at g
    show spec_DrawSplitFields.f (k + 1) b = some _
    unfold spec_DrawSplitFields.f
    simp only [f0, e1, e2, Option.bind_some, spec_DrawSplitFields.j0]
    rw [if_neg (by decide)]
    exact g
/-- Words, each behind it a space. -/
def trail (ws : List (List UInt8)) : List UInt8 := (ws.map (· ++ [32])).flatten
theorem trail_len : ∀ ws : List (List UInt8), (trail ws).length = (ws.map (·.length)).sum + ws.length
  | [] => rfl
  | w :: ws => by
    have ih := trail_len ws
    unfold trail at ih ⊢
    rw [List.map_cons, List.flatten_cons, List.length_append, ih]
    simp; omega
theorem trail_snoc (ws : List (List UInt8)) (w : List UInt8) : trail (ws ++ [w]) = trail ws ++ (w ++ [32]) := by simp [trail]
theorem trail_append (a b : List (List UInt8)) : trail (a ++ b) = trail a ++ trail b := by simp [trail]
theorem trail_take (ws : List (List UInt8)) (n : Nat) : (trail (ws.take n)).length ≤ (trail ws).length := by
  have e := trail_append (ws.take n) (ws.drop n)
  rw [List.take_append_drop] at e
  rw [e, List.length_append]; omega
theorem rdOf_map {ws : List (List UInt8)} {n : Nat} {w : List UInt8} (h : ws[n]? = some w) : rdOf ByteArray.empty (ws.map mkB) (n : Int) = mkB w := by
  unfold rdOf
  rw [List.getD_eq_getElem?_getD, Int.toNat_natCast, List.getElem?_map, h]; rfl
theorem same_ok (l : List ByteArray) (hl : l.length ≤ 4611686018427387904) : Ev (fun k => laws_sameTexts.f k l l) true := by
  have h := loop_to (fun k n (_ : Unit) => laws_sameTexts.l0 k l l (n : Int)) l.length (fun _ _ => True) true
    (fun n s hn _ => Or.inl ⟨(), trivial, 0, fun k _ => by
      simp only [laws_sameTexts.l0]
      rw [if_pos (by omega), if_pos (by omega), if_pos (by omega), if_pos trivial, wrap_succ hn hl]⟩)
    (fun s _ => ⟨0, fun k _ => by
      simp only [laws_sameTexts.l0]
      rw [if_neg (by omega)]⟩) 0 () (Nat.zero_le _) trivial
  refine Ev.congr (fun k => ?_) h
  unfold laws_sameTexts.f
  rw [if_pos rfl]
  rfl
theorem again_ok (s : List UInt8) (hok : (splitB s).2 = true) : Ev (fun k => laws_FnFieldsAgain.l0 k ((splitB s).1.map mkB) true (⟨#[]⟩ : ByteArray) 0) true := by
  have hs : splitB s = (Lib.fields s, true) ∧ s.length ≤ 600 ∧ s.all okC = true ∧ (Lib.fields s).length ≤ 24 := by
    unfold splitB at hok ⊢
    split at hok
    · rename_i h
      split at hok
      · rename_i h2
        rw [if_pos h, if_pos h2]
        exact ⟨rfl, h.1, h.2, h2⟩
      · cases hok
    · cases hok
  obtain ⟨e, h6, hall, h24⟩ := hs
  rw [e]
  show Ev (fun k => laws_FnFieldsAgain.l0 k ((Lib.fields s).map mkB) true (⟨#[]⟩ : ByteArray) 0) true
  have hw : ∀ w ∈ Lib.fields s, wordB w := fun w hw => (fields_words hw).1
  have hb : ∀ w ∈ Lib.fields s, ∀ c ∈ w, okC c = true := fun w hw c hc => List.all_eq_true.1 hall c ((fields_words hw).2 c hc)
  have hlen : (trail (Lib.fields s)).length ≤ 624 := by
    have := fieldsGo_bytes s []
    rw [trail_len]
    unfold Lib.fields at h24 ⊢
    simp at this
    omega
  generalize hP : Lib.fields s = P at hw hb hlen h24
  have hT : ∀ n, (trail (P.take n)).length ≤ 624 := fun n => Nat.le_trans (trail_take P n) hlen
  have hsplit : (trail P).length ≤ 600 → splitB (trail P) = (P, true) := by
    intro h
    have hf : Lib.fields (trail P) = P := fields_trail P hw
    have ha : (trail P).all okC = true := by
      rw [List.all_eq_true]
      intro c hc
      unfold trail at hc
      obtain ⟨v, hv, hcv⟩ := List.mem_flatten.1 hc
      obtain ⟨w, hwP, rfl⟩ := List.mem_map.1 hv
      rcases List.mem_append.1 hcv with h1 | h1
      · exact hb w hwP c h1
      · rw [List.mem_singleton.1 h1]; rfl
    unfold splitB
    rw [if_pos ⟨h, ha⟩, hf, if_pos h24]
  obtain ⟨K, hK⟩ := same_ok (P.map mkB) (by simp; omega)
  have hm : (P.map mkB).length = P.length := List.length_map ..
  refine loop_to (fun k n (t : ByteArray) => laws_FnFieldsAgain.l0 k (P.map mkB) true t (n : Int)) P.length (fun n t => t = mkB (trail (P.take n))) true
    (fun n t hn hI => Or.inl ⟨mkB (trail (P.take (n + 1))), rfl, 0, fun k _ => by
      subst hI
      obtain ⟨w, hwn⟩ : ∃ w, P[n]? = some w := ⟨_, List.getElem?_eq_getElem hn⟩
      have htk : P.take (n + 1) = P.take n ++ [w] := by rw [List.take_add_one, hwn]; rfl
      have hsz := hT (n + 1)
      have hT' : trail (P.take (n + 1)) = trail (P.take n) ++ (w ++ [32]) := by rw [htk, trail_snoc]
      rw [hT'] at hsz ⊢
      rw [List.length_append, List.length_append] at hsz
      have happ : mkB (trail (P.take n)) ++ mkB w ++ (⟨#[32]⟩ : ByteArray) = mkB (trail (P.take n) ++ (w ++ [32])) := by
        have a1 : mkB (trail (P.take n)) ++ mkB w = mkB (trail (P.take n) ++ w) := mk_append _ _
        have a2 : mkB (trail (P.take n) ++ w) ++ (⟨#[32]⟩ : ByteArray) = mkB (trail (P.take n) ++ w ++ [32]) := mk_append _ [32]
        rw [a1, a2, List.append_assoc]
      have z1 := mkB_size (trail (P.take n))
      have z2 := mkB_size w
      simp only [laws_FnFieldsAgain.l0, rdOf_map hwn]
      rw [if_pos (by omega), if_pos (by omega), if_pos (by omega), if_pos (by rw [ByteArray.size_append]; omega), happ, wrap_succ hn (by omega)]⟩)
    (fun t hI => ⟨K, fun k hk => by
      have hI' : t = mkB (trail (P.take P.length)) := hI
      rw [List.take_length] at hI'
      subst hI'
      have z1 := mkB_size (trail P)
      simp only [laws_FnFieldsAgain.l0]
      rw [if_neg (by omega), implSplit_val, Option.bind_some, if_pos trivial, mkB_list]
      by_cases h : (trail P).length ≤ 600
      · have es : laws_sameTexts.f k (P.map mkB) (P.map mkB) = some true := hK k hk
        rw [if_neg (by omega), hsplit h, if_pos rfl, es]; rfl
      · rw [if_pos (by omega)]⟩) 0 ⟨#[]⟩ (Nat.zero_le _) rfl
theorem FnFieldsAgain : laws_FnFieldsAgain.PureH := by
  intro b h8 _
  by_cases hb : (b.length : Int) > 1048576
  · refine ⟨0, ?_⟩
    unfold laws_FnFieldsAgain.f laws_big.f
    rw [Option.bind_some, if_pos (by simpa using hb)]
  obtain ⟨s, K1, h1⟩ := draw_line b (by omega)
  obtain ⟨K2, h2⟩ := specSplit_ev s
  have hp := implSplit_val s
  cases hok : (splitB s.data.toList).2 with
  | true =>
    obtain ⟨K3, h3⟩ := again_ok s.data.toList hok
    refine ⟨K1 + K2 + K3, ?_⟩
    have e1 : spec_DrawSplitFields.f (K1 + K2 + K3) b = some s := h1 _ (by omega)
    have e2 : spec_SplitFields.f (K1 + K2 + K3) s = some _ := h2 _ (by omega)
    have e3 := h3 (K1 + K2 + K3) (by omega)
    unfold laws_FnFieldsAgain.f laws_big.f
    rw [Option.bind_some, if_neg (by simpa using hb), e1, Option.bind_some, hp, Option.bind_some, e2, Option.bind_some, hok, if_pos rfl]
    exact e3
  | false =>
    refine ⟨K1 + K2, ?_⟩
    have e1 : spec_DrawSplitFields.f (K1 + K2) b = some s := h1 _ (by omega)
    have e2 : spec_SplitFields.f (K1 + K2) s = some _ := h2 _ (by omega)
    have hz : (splitB s.data.toList).1 = [] := by
      unfold splitB at hok ⊢
      split at hok
      · split at hok
        · cases hok
        · rename_i h1 h2; rw [if_pos h1, if_neg h2]
      · rename_i h1; rw [if_neg h1]
    have hm3 : Lib.itoa (-3) = [45, 51] := by decide +kernel
    unfold laws_FnFieldsAgain.f laws_big.f
    rw [Option.bind_some, if_neg (by simpa using hb), e1, Option.bind_some, hp, Option.bind_some, e2, Option.bind_some, hok, if_neg (by decide), if_neg (by decide), hz, if_pos (show ((List.map mkB []).length : Int) = 0 from rfl), fmtInt_val (by decide) (by decide), Option.bind_some, hm3, toList_data]
    rfl

end Go.Proofs.YtionemdnfhcfpaaDoor.Pure
