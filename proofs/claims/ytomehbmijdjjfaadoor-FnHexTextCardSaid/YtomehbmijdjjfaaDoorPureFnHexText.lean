/- For every byte list: of at most 2^20 bytes, the text drawn from it can be decoded from its hexadecimal encoding, and a longer one than is allowed is rejected; of a longer one the law asks nothing. -/
import Derived.Test.YtomehbmijdjjfaaDoorHQFnHexTextStmt
import Derived.Test.YtomehbmijdjjfaaDoorAid
import Derived.Test.YtomehbmijdjjfaaDoorLoopAid
import Derived.Test.YtomehbmijdjjfaaDoorFmtHQ
import Derived.Test.YtomehbmijdjjfaaDoorLongTHQ
import Derived.Test.YtomehbmijdjjfaaDoorTextTHQ
set_option linter.unusedVariables false
set_option linter.unusedSimpArgs false
namespace Go.Proofs.YtomehbmijdjjfaaDoor.Pure
open Go.RowKit Go.Proofs.YtomehbmijdjjfaaDoor.HQ Go.Proofs.YtomehbmijdjjfaaDoorW.PrintWords Go.Proofs.YtomehbmijdjjfaaDoorW.PrintLast Go.Proofs.YtomehbmijdjjfaaDoor.Aid

def hexD : ByteArray := ⟨#[48, 49, 50, 51, 52, 53, 54, 55, 56, 57, 97, 98, 99, 100, 101, 102]⟩
def pairOf (c : Int) : List Int := [bt hexD (c / 16), bt hexD (Go.bits .and .u8 c 15)]
theorem pair_at : ∀ c : Fin 256, 0 ≤ Go.bits .and .u8 (c.val : Int) 15 ∧ Go.bits .and .u8 (c.val : Int) 15 < 16 ∧ impl_hexDigit.f 1 (bt hexD ((c.val : Int) / 16)) = some ((c.val : Int) / 16) ∧ impl_hexDigit.f 1 (bt hexD (Go.bits .and .u8 (c.val : Int) 15)) = some (Go.bits .and .u8 (c.val : Int) 15) ∧
    (c.val : Int) / 16 ≠ 16 ∧ Go.bits .and .u8 (c.val : Int) 15 ≠ 16 ∧ Go.bits .or .u8 (((c.val : Int) / 16 * 16) % 256) (Go.bits .and .u8 (c.val : Int) 15) = (c.val : Int) := by decide +kernel
theorem bt_fin (a : ByteArray) (i : Int) : ∃ c : Fin 256, bt a i = (c.val : Int) := ⟨⟨(bt a i).toNat, by have := bt_range a i; omega⟩, by have := bt_range a i; simp; omega⟩
def hexOf (a : ByteArray) (n : Nat) : List Int := (List.range n).flatMap fun (j : Nat) => pairOf (bt a (j : Int))
theorem hexOf_succ (a : ByteArray) (n : Nat) : hexOf a (n + 1) = hexOf a n ++ pairOf (bt a (n : Int)) := by simp [hexOf, List.range_succ, List.flatMap_append]
theorem hexOf_len (a : ByteArray) (n : Nat) : (hexOf a n).length = 2 * n := by
  induction n with
  | zero => rfl
  | succ n ih => rw [hexOf_succ, List.length_append, ih]; simp [pairOf]; omega
theorem hexOf_at (a : ByteArray) : ∀ (m n : Nat), n < m → (hexOf a m)[2 * n]? = some (bt hexD (bt a (n : Int) / 16)) ∧ (hexOf a m)[2 * n + 1]? = some (bt hexD (Go.bits .and .u8 (bt a (n : Int)) 15))
  | 0, n, h => by omega
  | m + 1, n, h => by
    have hl := hexOf_len a m
    rw [hexOf_succ]
    by_cases e : n = m
    · subst e
      rw [List.getElem?_append_right (by omega), List.getElem?_append_right (by omega), hl, Nat.sub_self, show 2 * n + 1 - 2 * n = 1 by omega]
      exact ⟨rfl, rfl⟩
    · rw [List.getElem?_append_left (by omega), List.getElem?_append_left (by omega)]
      exact hexOf_at a m n (by omega)
theorem impl_hex (a : ByteArray) (ha : a.size ≤ 20000) : Ev (fun k => impl_hexText.f k a) (strOfNums (hexOf a a.size)) := by
  have h := loop_to (fun k n (s : List Int) => impl_hexText.l0 k a s (a.size : Int) (n : Int)) a.size (fun n s => s = hexOf a n) (strOfNums (hexOf a a.size))
    (fun n s hn hI => Or.inl ⟨hexOf a (n + 1), rfl, 0, fun k _ => by
      subst hI
      obtain ⟨c, hc⟩ := bt_fin a (n : Int)
      obtain ⟨h3, h4, _⟩ := pair_at c
      have hl := hexOf_len a n
      have hlt := c.isLt
      simp only [impl_hexText.l0]
      rw [if_pos (by omega), if_pos (by omega), if_pos (by omega), hc, if_pos (by omega), if_pos (by omega), if_pos h3, if_pos h4, Option.bind_some, if_pos (by simp; omega), wrap_succ hn (by omega), hexOf_succ, hc]
      rfl⟩)
    (fun s hI => ⟨0, fun k _ => by
      subst hI
      simp only [impl_hexText.l0]
      rw [if_neg (by omega)]⟩) 0 [] (Nat.zero_le _) rfl
  refine Ev.congr (fun k => ?_) h
  unfold impl_hexText.f
  rw [wrap_id (by omega) (by omega), if_pos (by omega), if_pos (by omega)]
  rfl
theorem bt_list' {s : ByteArray} {n : Nat} {c : UInt8} (h : s.data.toList[n]? = some c) : bt s (n : Int) = (c.toNat : Int) := by
  obtain ⟨hn, hc⟩ := List.getElem?_eq_some_iff.1 h
  have hs : n < s.size := by rw [Array.length_toList] at hn; exact hn
  have e : (s[n]'hs) = c := by rw [← hc]; rfl
  unfold bt
  rw [dif_pos (show ((n : Int)).toNat < s.size from hs)]
  show (((s[n]'hs).toNat : Nat) : Int) = _
  rw [e]
theorem bt_nums {l : List Int} {n : Nat} {x : Int} (h : l[n]? = some x) (h0 : 0 ≤ x) (h1 : x ≤ 255) : bt (strOfNums l) (n : Int) = x := by
  have e : (strOfNums l).data.toList[n]? = some (UInt8.ofNat x.toNat) := by
    simp [strOfNums, h]
  rw [bt_list' e, UInt8.toNat_ofNat']
  omega
def bytesTo (a : ByteArray) (n : Nat) : List Int := (List.range n).map fun j : Nat => bt a (j : Int)
theorem bytesTo_succ (a : ByteArray) (n : Nat) : bytesTo a (n + 1) = bytesTo a n ++ [bt a (n : Int)] := by simp [bytesTo, List.range_succ]
theorem bytesTo_all (a : ByteArray) : strOfNums (bytesTo a a.size) = a := by
  have h : (bytesTo a a.size).map (fun n => UInt8.ofNat n.toNat) = a.data.toList := by
    apply List.ext_getElem
    · rw [List.length_map, bytesTo, List.length_map, List.length_range, Array.length_toList]; rfl
    · intro j h1 h2
      have e : a.data.toList[j]? = some (a.data.toList[j]'h2) := List.getElem?_eq_some_iff.2 ⟨h2, rfl⟩
      simp only [bytesTo, List.getElem_map, List.getElem_range]
      rw [bt_list' e]
      exact UInt8.ofNat_toNat
  unfold strOfNums
  rw [h]
theorem digit_at (x : Int) {v : Int} (h : impl_hexDigit.f 1 x = some v) {k : Nat} (hk : 1 ≤ k) : impl_hexDigit.f k x = some v := at_rounds (fun k => impl_hexDigit.mono _ k) hk h
theorem impl_read (a : ByteArray) (ha : a.size ≤ 20000) : Ev (fun k => impl_readHex.f k (strOfNums (hexOf a a.size))) (a, true) := by
  have hsz : (strOfNums (hexOf a a.size)).size = 2 * a.size := by rw [nums_size, hexOf_len]
  have h := loop_to (fun k n (s : List Int) => impl_readHex.l0 k (strOfNums (hexOf a a.size)) s ((2 * n : Nat) : Int)) a.size (fun n s => s = bytesTo a n) (a, true)
    (fun n s hn hI => Or.inl ⟨bytesTo a (n + 1), rfl, 1, fun k hk => by
      have hI' : s = bytesTo a n := hI
      subst hI'
      obtain ⟨c, hc⟩ := bt_fin a (n : Int)
      obtain ⟨h3, h4, d1, d2, n1, n2, ho⟩ := pair_at c
      obtain ⟨a1, a2⟩ := hexOf_at a a.size n hn
      rw [hc] at a1 a2
      have r1 := bt_range hexD ((c.val : Int) / 16)
      have r2 := bt_range hexD (Go.bits .and .u8 (c.val : Int) 15)
      have b1 := bt_nums a1 r1.1 r1.2
      have b2 := bt_nums a2 r2.1 r2.2
      have w1 : wrap64 (((2 * n : Nat) : Int) + 1) = ((2 * n + 1 : Nat) : Int) := wrap_succ (N := 2 * a.size) (by omega) (by omega)
      have w2 : wrap64 (((2 * n : Nat) : Int) + 2) = ((2 * (n + 1) : Nat) : Int) := by rw [wrap_id (by omega) (by omega)]; omega
      have hl : (bytesTo a n).length = n := by simp [bytesTo]
      have g1 := digit_at _ d1 hk
      have g2 := digit_at _ d2 hk
      clear d1 d2
      have k1 : ((2 * n : Nat) : Int) < ((strOfNums (hexOf a a.size)).size : Int) := by omega
      have k2 : (0 : Int) ≤ ((2 * n : Nat) : Int) := by omega
      have k3 : (0 : Int) ≤ ((2 * n + 1 : Nat) : Int) := by omega
      have k4 : ((2 * n + 1 : Nat) : Int) < ((strOfNums (hexOf a a.size)).size : Int) := by omega
      have k5 : (bytesTo a n).length < 140737488355328 := by omega
      simp only [impl_readHex.l0, w1, w2, b1, b2]
      rw [if_pos k1, if_pos k2, g1, Option.bind_some, if_pos k3, if_pos k4, g2, Option.bind_some, if_neg n1, if_neg n2, if_pos k5, ho, bytesTo_succ, hc]⟩)
    (fun s hI => ⟨0, fun k _ => by
      have hI' : s = bytesTo a a.size := hI
      subst hI'
      simp only [impl_readHex.l0]
      rw [if_neg (by omega), bytesTo_all]⟩) 0 [] (Nat.zero_le _) rfl
  refine Ev.congr (fun k => ?_) h
  unfold impl_readHex.f
  rw [if_neg (by omega), wrap_id (by omega) (by omega), if_pos (by omega), if_pos (by omega)]
  rfl
theorem draw_ok (b : List Int) (hb : b.length ≤ 140737488351232) : ∃ s : ByteArray, Ev (fun k => spec_DrawEncodeHex.f k b) s := by
  obtain ⟨i, h, ⟨K1, h1⟩, hi⟩ := new_ok b
  obtain ⟨x, i1, g1, e1, hi1⟩ := once_ok (h := h) hb hi 60
  cases x with
  | true =>
    obtain ⟨y, i2, g2, e2, y0, y1, _, hi2⟩ := below_ok (h := g1) hb hi1 2
    have y1 := y1 (by decide)
    obtain ⟨s, _, K2, h2⟩ := long_ok (20000 + y.toNat) (by omega) 200
    refine ⟨s, K1 + K2, fun k hk => ?_⟩
    have f1 : spec_l01New.f k b = some (b, i, h) := h1 k (by omega)
    have f2 : spec_l01Long.f k ((20000 + y.toNat : Nat) : Int) 200 = some s := h2 k (by omega)
    have hw : wrap64 (20000 + y) = ((20000 + y.toNat : Nat) : Int) := by rw [wrap_id (by omega) (by omega)]; omega
    show spec_DrawEncodeHex.f k b = some s
    unfold spec_DrawEncodeHex.f
    simp only [f1, e1, e2, hw, f2, Option.bind_some, if_true]
  | false =>
    obtain ⟨y, i2, g2, e2, y0, y1, _, hi2⟩ := below_ok (h := g1) hb hi1 30
    have y1 := y1 (by decide)
    obtain ⟨s, i3, g3, K2, h2⟩ := text_ok (h := g2) hb hi2 y.toNat (by omega)
    refine ⟨s, K1 + K2, fun k hk => ?_⟩
    have f1 : spec_l01New.f k b = some (b, i, h) := h1 k (by omega)
    have hy : ((y.toNat : Nat) : Int) = y := by omega
    have f2 : spec_l01Text.f k b i2 g2 y = some (s, i3, g3) := by rw [← hy]; exact h2 k (by omega)
    show spec_DrawEncodeHex.f k b = some s
    unfold spec_DrawEncodeHex.f
    simp only [f1, e1, Option.bind_some]
    rw [if_neg (by decide), e2, Option.bind_some, f2, Option.bind_some]
theorem FnHexText : laws_FnHexText.PureH := by
  intro b h8 _
  unfold laws_FnHexText.f laws_big.f
  by_cases hb : (b.length : Int) > 1048576
  · exact ⟨0, by rw [Option.bind_some, if_pos (by simpa using hb)]⟩
  obtain ⟨s, K1, h1⟩ := draw_ok b (by omega)
  by_cases hs : s.size ≤ 20000
  · obtain ⟨K2, h2⟩ := impl_hex s hs
    obtain ⟨K3, h3⟩ := impl_read s hs
    have hsz : (strOfNums (hexOf s s.size)).size = 2 * s.size := by rw [nums_size, hexOf_len]
    refine ⟨K1 + K2 + K3, ?_⟩
    have e1 : spec_DrawEncodeHex.f (K1 + K2 + K3) b = some s := h1 _ (by omega)
    have e2 : impl_hexText.f (K1 + K2 + K3) s = some (strOfNums (hexOf s s.size)) := h2 _ (by omega)
    have e3 : impl_readHex.f (K1 + K2 + K3) (strOfNums (hexOf s s.size)) = some (s, true) := h3 _ (by omega)
    have g1 : impl_EncodeHex.f (K1 + K2 + K3) s = some (strOfNums (hexOf s s.size), true) := by
      unfold impl_EncodeHex.f
      rw [if_neg (by omega), e2, Option.bind_some]
    have g2 : impl_DecodeHex.f (K1 + K2 + K3) (strOfNums (hexOf s s.size)) = some (s, true) := by
      unfold impl_DecodeHex.f
      rw [e3, Option.bind_some, if_pos rfl]
      exact if_neg (by show ¬ ((s.size : Int) > 20000); omega)
    have hw : wrap64 (2 * (s.size : Int)) = ((2 * s.size : Nat) : Int) := by rw [wrap_id (by omega) (by omega)]; omega
    rw [Option.bind_some, if_neg (by simpa using hb), e1, Option.bind_some, g1, Option.bind_some, if_neg (by omega), g2, Option.bind_some, if_pos rfl, if_pos rfl, if_pos rfl, hw, hsz]
    simp
  · refine ⟨K1, ?_⟩
    have e1 : spec_DrawEncodeHex.f K1 b = some s := h1 _ (Nat.le_refl _)
    have g1 : impl_EncodeHex.f K1 s = some ((⟨#[]⟩ : ByteArray), false) := by
      unfold impl_EncodeHex.f
      rw [if_pos (by omega)]
    have hten : Lib.itoa 10 = [49, 48] := by decide +kernel
    rw [Option.bind_some, if_neg (by simpa using hb), e1, Option.bind_some, g1, Option.bind_some, if_pos (by omega), if_neg (by decide), if_pos (by rw [toList_data]), fmtInt_val (by decide) (by decide), Option.bind_some, hten, toList_data]
    rfl

end Go.Proofs.YtomehbmijdjjfaaDoor.Pure
