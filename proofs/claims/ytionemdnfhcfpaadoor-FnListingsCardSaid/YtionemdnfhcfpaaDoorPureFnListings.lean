/- Programs can be parsed from their text, whatever quiet program is drawn. -/
import Derived.Test.YtionemdnfhcfpaaDoorHLFnListingsStmt
import Derived.Test.YtionemdnfhcfpaaDoorAid
import Derived.Test.YtionemdnfhcfpaaDoorLoopAid
import Derived.Test.YtionemdnfhcfpaaDoorKitHL
set_option linter.unusedVariables false
set_option linter.unusedSimpArgs false
namespace Go.Proofs.YtionemdnfhcfpaaDoor.Pure
open Go.RowKit Go.Proofs.YtionemdnfhcfpaaDoor.HL Go.Proofs.YtionemdnfhcfpaaDoorW.PrintWords Go.Proofs.YtionemdnfhcfpaaDoorW.PrintLast Go.Proofs.YtionemdnfhcfpaaDoor.Aid

theorem same_ev (p : List S31) (hl : p.length ≤ 32) : Ev (fun k => impl_SamePrograms.f k p p) true := by
  have h := loop_to (fun k n (_ : Unit) => impl_Ins_69.l0 k p p (p.length : Int) (n : Int)) p.length (fun _ _ => True) true
    (fun n s hn _ => Or.inl ⟨(), trivial, 0, fun k _ => by
      simp only [impl_Ins_69.l0]
      rw [if_pos (by omega), if_pos (by omega), if_pos (by omega), if_pos (by omega), if_neg (by simp), wrap_succ hn (by omega)]⟩)
    (fun s _ => ⟨0, fun k _ => by
      simp only [impl_Ins_69.l0]
      rw [if_neg (by omega)]⟩) 0 () (Nat.zero_le _) trivial
  refine Ev.congr (fun k => ?_) (show Ev (fun k => impl_Ins_69.f k p p) true from Ev.congr (fun k => by unfold impl_Ins_69.f; rw [if_pos rfl]; rfl) h)
  unfold impl_SamePrograms.f
  cases impl_Ins_69.f k p p <;> rfl
theorem list_ev {p : List S31} (hp : progB p = true) : Ev (fun k => laws_FnListings.l0 k p (p.map lineT) true p true 0) true := by
  have hl : p.length ≤ 32 := by
    unfold progB at hp
    rw [Bool.and_eq_true] at hp
    exact of_decide_eq_true hp.1
  have hm : (p.map lineT).length = p.length := List.length_map ..
  obtain ⟨KS, hS⟩ := same_ev p hl
  exact loop_to (fun k n (_ : Unit) => laws_FnListings.l0 k p (p.map lineT) true p true (n : Int)) p.length (fun _ _ => True) true
    (fun n s hn _ => Or.inl ⟨(), trivial, by
      obtain ⟨hok, _⟩ := prog_at hp hn
      have htl := text_len hok
      generalize hx : rd_T31 p (n : Int) = x at hok htl
      have hrd : rdOf ByteArray.empty (p.map lineT) (n : Int) = lineT x := by rw [line_at hn, hx]
      have r0 : 0 ≤ x.f1 ∧ x.f1 ≤ 65535 := insOk_range hok 0 (by omega)
      have r1 : 0 ≤ x.f2 ∧ x.f2 ≤ 65535 := insOk_range hok 1 (by omega)
      have r2 : 0 ≤ x.f3 ∧ x.f3 ≤ 65535 := insOk_range hok 2 (by omega)
      obtain ⟨K1, h1⟩ := formatIns_ev (op := x.f0) (a := x.f1) (b := x.f2) (c := x.f3) (by omega) (by omega) (by omega)
      have hpad : (((⟨#[32, 32]⟩ : ByteArray) ++ lineT x) ++ (⟨#[32]⟩ : ByteArray)).data.toList = 32 :: 32 :: (textT x.f0 x.f1 x.f2 x.f3 ++ [32]) := by
        unfold lineT mkB
        simp [ByteArray.data_append]
      obtain ⟨K2, h2⟩ := parse_back (a := ((⟨#[32, 32]⟩ : ByteArray) ++ lineT x) ++ (⟨#[32]⟩ : ByteArray)) hok (by rw [hpad]; exact split_pad hok)
      have hsz : (lineT x).size ≤ 70 := by unfold lineT; rw [mkB_size]; exact htl
      have hs2 : ((⟨#[32, 32]⟩ : ByteArray) ++ lineT x).size ≤ 72 := by rw [ByteArray.size_append]; show 2 + _ ≤ 72; omega
      refine ⟨K1 + K2, fun k hk => ?_⟩
      have e1 : impl_FormatIns.f k x.f0 x.f1 x.f2 x.f3 = some (lineT x) := h1 k (by omega)
      have e2 : impl_ParseIns.f k (((⟨#[32, 32]⟩ : ByteArray) ++ lineT x) ++ (⟨#[32]⟩ : ByteArray)) = some (x.f0, x.f1, x.f2, x.f3, true) := h2 k (by omega)
      simp only [laws_FnListings.l0, hrd, hx]
      rw [if_pos (by omega), if_pos (by omega), if_pos (by omega), if_pos (by omega), e2, Option.bind_some, if_pos rfl, if_neg (by omega), if_pos (by omega), if_neg (by simp), e1, Option.bind_some, if_pos rfl, wrap_succ hn (by omega)]⟩)
    (fun s _ => ⟨KS, fun k hk => by
      have e : impl_SamePrograms.f k p p = some true := hS k hk
      simp only [laws_FnListings.l0]
      rw [if_neg (by omega), if_pos trivial, if_pos trivial, if_pos (by omega), e, Option.bind_some]⟩) 0 () (Nat.zero_le _) trivial
theorem FnListings : laws_FnListings.PureH := by
  intro b h8 _
  by_cases hb : (b.length : Int) > 1048576
  · refine ⟨0, ?_⟩
    unfold laws_FnListings.f laws_big.f
    rw [Option.bind_some, if_pos (by simpa using hb)]
  obtain ⟨p, hp, K1, h1⟩ := quiet_ok (b := b) (by omega)
  obtain ⟨K2, h2⟩ := format_ev hp
  obtain ⟨K3, h3⟩ := parseAll_ev hp
  obtain ⟨K4, h4⟩ := list_ev hp
  refine ⟨K1 + K2 + K3 + K4, ?_⟩
  have e1 : spec_DrawQuiet.f (K1 + K2 + K3 + K4) b = some p := h1 _ (by omega)
  have e2 : impl_FormatProgram.f (K1 + K2 + K3 + K4) p = some (p.map lineT, true) := h2 _ (by omega)
  have e3 : impl_ParseProgram.f (K1 + K2 + K3 + K4) (p.map lineT) = some (p, true) := h3 _ (by omega)
  have e4 := h4 (K1 + K2 + K3 + K4) (by omega)
  unfold laws_FnListings.f laws_big.f
  rw [Option.bind_some, if_neg (by simpa using hb), e1, Option.bind_some, e2, Option.bind_some, e3, Option.bind_some]
  exact e4

end Go.Proofs.YtionemdnfhcfpaaDoor.Pure
