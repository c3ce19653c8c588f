-- by hprint.py (wip/tools) over the kit's print.py: this session's text; Lean checks it
import Derived.Test.YtomehbmijdjjfaaHN0
namespace Go.Proofs.Ytomehbmijdjjfaa.HN
open Go.RowKit Go.Proofs.YtomehbmijdjjfaaW.PrintWords Go.Proofs.YtomehbmijdjjfaaW.PrintLast Go.Proofs.YtomehbmijdjjfaaW.PrintMore
attribute [local go_sem] max2_int min2_int max_two min_two max_three min_three max_four min_four   -- for this text's walks alone
set_option linter.unusedVariables false
set_option linter.unusedSimpArgs false

/-! ### impl_Ins_69: function 69 -/
/-! #### a row of instructions, its cells one behind the other -/
def InsW.cells (x : S52) : List Value := [.int .i64 x.f0, .int .i64 x.f1, .int .i64 x.f2, .int .i64 x.f3]
def InsW.flat : List S52 → List Value
  | [] => []
  | x :: l => InsW.cells x ++ InsW.flat l
theorem InsW.flat_length : ∀ l : List S52, (InsW.flat l).length = l.length * 4
  | [] => rfl
  | x :: l => by
    rw [InsW.flat, List.length_append, InsW.flat_length l, List.length_cons]
    show 4 + _ = _
    omega
theorem InsW.flat_append : ∀ l m : List S52, InsW.flat (l ++ m) = InsW.flat l ++ InsW.flat m
  | [], m => rfl
  | x :: l, m => by rw [List.cons_append, InsW.flat, InsW.flat, InsW.flat_append l m, List.append_assoc]
theorem InsW.flat_take (l : List S52) (i : Nat) (hi : i ≤ l.length) : (InsW.flat l).take (i * 4) = InsW.flat (l.take i) := by
  conv => lhs; rw [← List.take_append_drop i l, InsW.flat_append]
  rw [List.take_left' (by rw [InsW.flat_length, List.length_take]; omega)]
theorem InsW.flat_drop (l : List S52) (i : Nat) (hi : i ≤ l.length) : (InsW.flat l).drop (i * 4) = InsW.flat (l.drop i) := by
  conv => lhs; rw [← List.take_append_drop i l, InsW.flat_append]
  rw [List.drop_left' (by rw [InsW.flat_length, List.length_take]; omega)]
theorem InsW.flat_one : ∀ (l : List S52), ∀ v ∈ InsW.flat l, v.oneCell' = true
  | [], v, h => by simp [InsW.flat] at h
  | x :: l, v, h => by
    rw [InsW.flat, List.mem_append] at h
    rcases h with h | h
    · simp [InsW.cells] at h
      rcases h with rfl | rfl | rfl | rfl <;> rfl
    · exact InsW.flat_one l v h
theorem InsW.reps_flat (w : World) (base : Nat) (ok : Nat → Prop) : ∀ l : List S52, Reps (k52.M w base ok) 4 l (InsW.flat l)
  | [] => Reps.none _ _
  | x :: l => Kd.reps_append (ps := [x]) (cs := InsW.cells x) ⟨rfl, fun j p hj => by
      match j, hj with
      | 0, hj =>
        obtain rfl : x = p := by simpa using hj
        exact k52_mkM w base ok x
      | j + 1, hj => simp at hj⟩ (InsW.reps_flat w base ok l)
theorem InsW.flat_of {R : S52 → List Value → Prop} (hR : ∀ x cs, R x cs → cs = InsW.cells x) : ∀ (l : List S52) (cs : List Value), Reps R 4 l cs → cs = InsW.flat l
  | [], cs, h => by
    have := h.1
    simpa [InsW.flat] using this
  | x :: l, cs, h => by
    have h0 := hR _ _ (h.2 0 x rfl)
    have hl : cs.length = (l.length + 1) * 4 := h.1
    rw [Nat.zero_mul, List.drop_zero] at h0
    have ht : Reps R 4 l (cs.drop 4) := ⟨by rw [List.length_drop]; omega, fun j p hj => by
      have := h.2 (j + 1) p (by simpa using hj)
      rw [List.drop_drop, show 4 + j * 4 = (j + 1) * 4 by omega]
      exact this⟩
    rw [InsW.flat, ← InsW.flat_of hR l _ ht, ← h0, List.take_append_drop]
/-- A block that begins with a row's cells is a row of the call's own. -/
theorem InsW.row_of {W : World} {base g cap : Nat} {ok : Nat → Prop} {cur : Array Value} {l : List S52} {n : Nat} (hn : n = l.length) (hbase : base ≤ g) (hb : W.heap[g]? = some (.cells cur 52 (0, 0))) (hc : n ≤ cap) (hm : cap ≤ maxLen) (hs : cur.size = cap * 4)
    (ht : cur.toList.take (n * 4) = InsW.flat l) (hok : ok g) : Kd.R k52 52 W base ok (.slice (some ⟨g, 0, none⟩) n cap) l := by
  subst hn
  exact ⟨fun k hk => by
    have : g = k := by simpa [Value.ownBlock] using hk
    subst this
    exact hok, InsW.flat l, ⟨InsW.flat_length l, .inr ⟨g, cap, cur, rfl, hbase, hb, hc, hm, hs, ht⟩⟩, InsW.reps_flat _ _ _ l⟩
/-- copy, of elements of any size, onto a row. -/
theorem InsW.copy {P : Program} (w : World) (dT sT ty elem : TypeId) (sz g o dLen dCap : Nat) (a : Addr) (sLen sCap : Nat) (cur : Array Value) (t : TypeId) (cs : List Value)
    (hu : P.underlying dT = some (.slice elem)) (hs : (P.info? elem).map (·.size) = some sz)
    (hg : w.heap[g]? = some (.cells cur t (0, 0))) (hn : cs.length = Nat.min sLen dLen * sz)
    (hsrc : ∀ j v, cs[j]? = some v → w.cell? (a.add j) = some v) (hfit : o + cs.length ≤ cur.size) (h1 : ∀ v ∈ cs, v.oneCell' = true) :
    (Builtin.copy_ #[dT, sT] ty #[.slice (some ⟨g, o, none⟩) dLen dCap, .slice (some a) sLen sCap]).run P w =
      .ok (goInt (Nat.min sLen dLen)) (w.setRow g (cur.toList.take o ++ cs ++ cur.toList.drop (o + cs.length)).toArray) := by
  have hl := run_loadCells_list (P := P) w a cs hsrc
  have hst := run_storeCells_at P g o t cs 0 cur w hg (by simpa using hfit) h1
  cases hq : P.info? elem with
  | none => simp [hq] at hs
  | some i =>
    have hi : i.size = sz := by simpa [hq] using hs
    simp [Builtin.copy_, run_underlying hu, Builtin.lenOf, Builtin.firstCells, sizeOf, typeInfo, hq, hi, ← hn, hl, hst]
/-- slices.overlaps of two slices in two blocks, the second of which is plain memory. -/
theorem InsW.apart {P : Program} (w : World) (tS tR e : TypeId) (ht : P.underlying tS = some (.slice e)) (size : Nat) (hz : ∀ w, (Go.sizeOf e).run P w = .ok size w)
    (a b : Addr) (la ca lb cb : Nat) (hne : a.block ≠ b.block) (tA tB : TypeId) (kA kB : Nat)
    (hsa : w.shape? a.block = some (tA, kA)) (hsb : w.shape? b.block = some (tB, kB)) (hkA : kA ≠ 0)
    (hfb : w.frozen? b = false) (hfe : w.frozen? { block := b.block, off := kB } = false) :
    (Extern.SlicesOverlaps.overlaps #[tS, tS] #[tR] #[.slice (some a) la ca, .slice (some b) lb cb]).run P w = .ok (.bool false) w := by
  have hnb : (a.block != b.block) = true := by simpa using hne
  have hnb' : (a.block == b.block) = false := by simpa using hne
  change Sem.run P (α := Value) (do
    let some t := (#[tS, tS] : Array TypeId)[0]? | stuck "slices.overlaps: no parameter types"
    let .slice elem ← underlying t | stuck "slices.overlaps: slice type expected"
    let size ← sizeOf elem
    match (some a : Option Addr), (some b : Option Addr) with
    | some a, some b =>
      if la = 0 ∨ lb = 0 ∨ size = 0 then pure (Value.bool false)
      else if a.block != b.block && (← frozen a) && (← frozen b) then unsupported .addressObserved
      else do
        if a.block != b.block then do
          noView a; noView b
          if ← mayBeOne a b then return Value.bool ((← choose (.extern "sameAddr.stringBytes" 2)) == 1)
        pure (Value.bool (a.block == b.block && a.off < b.off + lb * size && b.off < a.off + la * size))
    | _, _ => pure (Value.bool false)) w = _
  by_cases h0 : la = 0 ∨ lb = 0 ∨ size = 0
  · simp [run_underlying ht, hz, h0]
  · cases kA with
    | zero => exact absurd rfl hkA
    | succ kA =>
      cases hfa : w.frozen? a <;> cases hfa2 : w.frozen? { block := a.block, off := kA + 1 } <;>
        simp [run_underlying ht, hz, h0, hnb, hnb', frozen, noView, viewAt, mayBeOne, stringish, shape, Sem.run, hsa, hsb, hfb, hfe, hfa, hfa2]
/-- What the two copies leave: the row with the value laid in. -/
theorem InsW.spliced (row : List Value) (A Z B : List Value) (h : row.take A.length = A) (hl : A.length + Z.length + B.length ≤ row.length) :
    let r1 := row.take A.length ++ Z ++ row.drop (A.length + Z.length)
    (r1.take (A.length + Z.length) ++ B ++ r1.drop (A.length + Z.length + B.length)).take (A.length + Z.length + B.length) = A ++ Z ++ B := by
  intro r1
  have e1 : r1.take (A.length + Z.length) = A ++ Z := by
    show ((row.take A.length ++ Z) ++ _).take (A.length + Z.length) = _
    rw [h, List.take_left' (by rw [List.length_append])]
  rw [e1, List.take_left' (by simp; omega)]
theorem InsW.shifted (row : List Value) (A Z B : List Value) (h : row.take (A.length + B.length) = A ++ B) (hl : A.length + Z.length + B.length ≤ row.length) :
    let r1 := row.take (A.length + Z.length) ++ B ++ row.drop (A.length + Z.length + B.length)
    (r1.take A.length ++ Z ++ r1.drop (A.length + Z.length)).take (A.length + Z.length + B.length) = A ++ Z ++ B := by
  intro r1
  have e0 : row.take A.length = A := by
    have := congrArg (List.take A.length) h
    rw [List.take_take, Nat.min_eq_left (by omega), List.take_left' rfl] at this
    exact this
  have hlen : (row.take (A.length + Z.length)).length = A.length + Z.length := by rw [List.length_take]; omega
  have e1 : r1.take A.length = A := by
    show ((row.take (A.length + Z.length) ++ B) ++ _).take A.length = A
    rw [List.append_assoc, List.take_append_of_le_length (by omega), List.take_take, Nat.min_eq_left (by omega), e0]
  have e2 : r1.drop (A.length + Z.length) = B ++ row.drop (A.length + Z.length + B.length) := by
    show ((row.take (A.length + Z.length) ++ B) ++ _).drop (A.length + Z.length) = _
    rw [List.append_assoc, List.drop_left' hlen]
  rw [e1, e2, ← List.append_assoc, List.take_left' (by simp; omega)]
theorem InsW.add_at (b off j : Nat) : (⟨b, off, none⟩ : Addr).add j = ⟨b, off + j, none⟩ := by unfold Addr.add; split <;> simp_all
theorem InsW.drew_setRow (w : World) (g : Nat) (r : Array Value) : (w.setRow g r).drew = w.drew.setRow g r := rfl
set_option maxHeartbeats 8000000 in
set_option maxRecDepth 100000 in
theorem InsW.shift (g n cap i vb voff vc : Nat) (cur r1 r2 : Array Value) (A Z B : List Value) (w : World) (hi : i < n) (hroom : n + 1 ≤ cap) (hcm : cap ≤ 9223372036854775807) (hbig : n ≤ 2000000) (hvb : vb ≠ g)
    (hb : w.heap[g]? = some (.cells cur 52 (0, 0))) (hcur : cur.size = cap * 4) (hA : A.length = i * 4) (hB : B.length = (n - i) * 4) (hZ : Z.length = 4)
    (hcs : cur.toList.take (n * 4) = A ++ B)
    (hz : ∀ j v, Z[j]? = some v → w.cell? ⟨vb, voff + j, none⟩ = some v) (h1 : ∀ v ∈ B, v.oneCell' = true) (h1z : ∀ v ∈ Z, v.oneCell' = true)
    (tA : TypeId) (kA : Nat) (hsa : w.shape? vb = some (tA, kA)) (hkA : kA ≠ 0)
    (hr1 : r1 = (cur.toList.take ((i + 1) * 4) ++ B ++ cur.toList.drop ((i + 1) * 4 + B.length)).toArray)
    (hr2 : r2 = (r1.toList.take (i * 4) ++ Z ++ r1.toList.drop (i * 4 + Z.length)).toArray) :
    Calls Try.prog 69 #[.slice (some ⟨g, 0, none⟩) n cap, .int .i64 i, .slice (some ⟨vb, voff, none⟩) 1 vc] w fun e w' =>
      e = .returned (.slice (some ⟨g, 0, none⟩) (n + 1) cap) ∧ w' = (w.drew.setRow g r1).setRow g r2 := by
  obtain ⟨i0, hi0, hz0, hzs, hzb⟩ := info_parts info52
  have hsz : (Try.prog.info? 52).map (·.size) = some 4 := by rw [hi0]; simp [hzs]
  have hg : g < w.heap.size := blk_lt hb
  have hcA : ∀ W : World, (Instr.slice 34 (.slice (some ⟨g, 0, none⟩) n cap) (some (.int .i64 (i : Int))) none none).run Try.prog W = .ok (.slice (some ⟨g, i * 4, none⟩) (n - i) (cap - i)) W := fun W => by
    rw [cut_from 34 52 .i64 Try.underlying34 hi0 4 hzs (some ⟨g, 0, none⟩) n cap (i : Int) (by omega) (by omega) W, Int.toNat_natCast, if_neg (by omega), Option.map_some, InsW.add_at, Nat.zero_add]
  have hcB : ∀ W : World, (Instr.slice 34 (.slice (some ⟨g, 0, none⟩) n cap) none (some (.int .i64 ((n : Int) + 1))) none).run Try.prog W = .ok (.slice (some ⟨g, 0, none⟩) (n + 1) cap) W := fun W => by
    have hel : Try.prog.elem 34 = 52 := by simp [Program.elem, Try.underlying34]
    have hu : Try.prog.underlying 34 = some (.slice (Try.prog.elem 34)) := by rw [hel]; exact Try.underlying34
    rw [run_slice_h W 34 (some ⟨g, 0, none⟩) n cap hu .i64 ((n : Int) + 1) (by omega) (by omega), hel, show ((n : Int) + 1).toNat = n + 1 by omega]
    simp [sizeOf, typeInfo, hi0, sliced, Result.andThen, InsW.add_at]
  have hcC : ∀ W : World, (Instr.slice 34 (.slice (some ⟨g, 0, none⟩) (n + 1) cap) (some (.int .i64 ((i : Int) + 1))) none none).run Try.prog W = .ok (.slice (some ⟨g, (i + 1) * 4, none⟩) (n - i) (cap - (i + 1))) W := fun W => by
    rw [cut_from 34 52 .i64 Try.underlying34 hi0 4 hzs (some ⟨g, 0, none⟩) (n + 1) cap ((i : Int) + 1) (by omega) (by omega) W, show ((i : Int) + 1).toNat = i + 1 by omega, if_neg (by omega), Option.map_some, InsW.add_at, Nat.zero_add, Nat.add_sub_add_right]
  have hcD : ∀ W : World, (Instr.slice 34 (.slice (some ⟨g, 0, none⟩) (n + 1) cap) (some (.int .i64 (i : Int))) none none).run Try.prog W = .ok (.slice (some ⟨g, i * 4, none⟩) (n + 1 - i) (cap - i)) W := fun W => by
    rw [cut_from 34 52 .i64 Try.underlying34 hi0 4 hzs (some ⟨g, 0, none⟩) (n + 1) cap (i : Int) (by omega) (by omega) W, Int.toNat_natCast, if_neg (by omega), Option.map_some, InsW.add_at, Nat.zero_add]
  have hsize : ∀ W : World, (Go.sizeOf 52).run Try.prog W = .ok 4 W := fun W => by simp [sizeOf, typeInfo, hi0, hzs]
  have hov : ∀ lb cb, (callFunc 85 #[.slice (some ⟨vb, voff, none⟩) 1 vc, .slice (some ⟨g, (i + 1) * 4, none⟩) lb cb]).run Try.prog w = .ok (.value (.bool false)) w := fun lb cb => by
    rw [run_callFunc_extern Try.func85 (by kernel_rfl) (by kernel_rfl) (by kernel_rfl) (e := Extern.SlicesOverlaps.overlaps #[34, 34] #[4]) (by kernel_rfl),
      InsW.apart w 34 4 52 Try.underlying34 4 hsize ⟨vb, voff, none⟩ ⟨g, (i + 1) * 4, none⟩ 1 vc lb cb hvb tA 52 kA cur.size hsa (by simp [World.shape?, hb]) hkA (blk_frozen hb _) (blk_frozen hb _)]
    rfl
  have hrow : ∀ j v, B[j]? = some v → w.cell? ⟨g, i * 4 + j, none⟩ = some v := fun j v hj => by
    have hjl : j < B.length := (List.getElem?_eq_some_iff.1 hj).1
    rw [blk_cell hb]
    have e1 : (cur.toList.take (n * 4))[i * 4 + j]? = some v := by
      rw [hcs, List.getElem?_append_right (by omega), hA, show i * 4 + j - i * 4 = j by omega]; exact hj
    rw [List.getElem?_take, if_pos (by omega)] at e1
    simpa using e1
  have hr1s : r1.size = cur.size := by
    rw [hr1]
    simp
    omega
  have hcp1 : ∀ ty dc sc, (Builtin.copy_ #[34, 34] ty #[.slice (some ⟨g, (i + 1) * 4, none⟩) (n - i) dc, .slice (some ⟨g, i * 4, none⟩) (n + 1 - i) sc]).run Try.prog w.drew = .ok (goInt (Nat.min (n + 1 - i) (n - i))) (w.drew.setRow g r1) := fun ty dc sc => by
    rw [hr1]
    exact InsW.copy w.drew 34 34 ty 52 4 g ((i + 1) * 4) (n - i) dc ⟨g, i * 4, none⟩ (n + 1 - i) sc cur 52 B Try.underlying34 hsz hb (by rw [hB]; simp only [Nat.min_def]; split <;> omega)
      (fun j v hj => by rw [InsW.add_at]; exact hrow j v hj) (by omega) h1
  obtain ⟨W1, hW1⟩ : ∃ W1, W1 = w.drew.setRow g r1 := ⟨_, rfl⟩
  have hb1 : W1.heap[g]? = some (.cells r1 52 (0, 0)) := by rw [hW1]; exact setRow_heap w.drew g cur r1 52 (0, 0) hb
  have hv1 : ∀ j v, Z[j]? = some v → W1.cell? ⟨vb, voff + j, none⟩ = some v := fun j v hj => by
    have := hz j v hj
    rw [hW1]
    unfold World.cell? World.setRow at *
    simp only [Array.getElem?_modify]
    rw [if_neg (fun e => hvb e.symm)]
    exact this
  have hcp2 : ∀ ty dc (W : World), W.heap = W1.heap → (Builtin.copy_ #[34, 34] ty #[.slice (some ⟨g, i * 4, none⟩) (n + 1 - i) dc, .slice (some ⟨vb, voff, none⟩) 1 vc]).run Try.prog W = .ok (goInt (Nat.min 1 (n + 1 - i))) (W.setRow g r2) := fun ty dc W hW => by
    rw [hr2]
    exact InsW.copy W 34 34 ty 52 4 g (i * 4) (n + 1 - i) dc ⟨vb, voff, none⟩ 1 vc r1 52 Z Try.underlying34 hsz (by rw [hW]; exact hb1) (by rw [hZ]; simp only [Nat.min_def]; split <;> omega)
      (fun j v hj => by
        rw [InsW.add_at]
        have := hv1 j v hj
        unfold World.cell? at *
        rw [hW]
        exact this) (by omega) h1z
  have hw1 : IntKind.i64.wrap ((i : Int) + 1) = (i : Int) + 1 := by rw [IntKind.wrap_i64]; omega
  have hw2 : IntKind.i64.wrap ((n : Int) + 1) = (n : Int) + 1 := by rw [IntKind.wrap_i64]; omega
  have hz2 : ¬ ((i : Int) = (n : Int)) := by omega
  have hz3 : ¬ ((cap : Int) < (n : Int) + 1) := by omega
  have hn1 : (n : Int) ≤ 2000000 := by omega
  have hi1 : (i : Int) ≤ 2000000 := by omega
  rw [← hW1] at hcp1 ⊢
  clear hr1 hr2 hcs hrow hv1 hz hb hb1 h1 h1z hA hB hZ hsa hkA hr1s hcur hsz hsize
  have mixed : Try.prog.follows Departure.mixedOrders = true := by kernel_rfl
  go_enter Try.func69, Try.ntmps69
  go_wp2_with (simp only [hov])
  go_region_law_o (refine step_copy_runI rfl _ _ 34 34 rfl _ _ (by simp [Act.eval, Act.put]) (by simp [Act.eval, Act.put]) (hcp1 _ _ _) ?_)
  go_wp2_with (at_builtin; refine wpList_copy_runI _ rfl _ _ 34 34 rfl _ _ rfl rfl (hcp2 _ _ _ rfl) ?_)
  go_ret
  first | exact ⟨rfl, rfl⟩ | exact ⟨rfl, by rw [hW1]⟩
theorem InsW.zeros_len (z : Array Value) (k : Nat) : (Builtin.zeroCells z k).size = k * z.size := by simp [Builtin.zeroCells]
set_option maxHeartbeats 8000000 in
set_option maxRecDepth 100000 in
theorem InsW.grow (g n cap i vb voff vc : Nat) (cur r0 r1 r2 : Array Value) (G : Nat) (A Z B : List Value) (w : World) (hi : i < n) (hnc : n ≤ cap) (hroom : cap < n + 1) (hbig : n ≤ 2000000) (hvb : vb < w.heap.size)
    (hb : w.heap[g]? = some (.cells cur 52 (0, 0))) (hcur : cur.size = cap * 4) (hA : A.length = i * 4) (hB : B.length = (n - i) * 4) (hZ : Z.length = 4)
    (hcs : cur.toList.take (n * 4) = A ++ B)
    (hz : ∀ j v, Z[j]? = some v → w.cell? ⟨vb, voff + j, none⟩ = some v) (h1 : ∀ v ∈ B, v.oneCell' = true) (h1z : ∀ v ∈ Z, v.oneCell' = true)
    (hG : G = grownCap w (n + 1) cap 52)
    (hr0 : r0 = A.toArray ++ Builtin.zeroCells #[.int .i64 0, .int .i64 0, .int .i64 0, .int .i64 0] (n + 1 - i) ++ Builtin.zeroCells #[.int .i64 0, .int .i64 0, .int .i64 0, .int .i64 0] (G - (n + 1)))
    (hr1 : r1 = (r0.toList.take (i * 4) ++ Z ++ r0.toList.drop (i * 4 + Z.length)).toArray)
    (hr2 : r2 = (r1.toList.take ((i + 1) * 4) ++ B ++ r1.toList.drop ((i + 1) * 4 + B.length)).toArray) :
    Calls Try.prog 69 #[.slice (some ⟨g, 0, none⟩) n cap, .int .i64 i, .slice (some ⟨vb, voff, none⟩) 1 vc] w fun e w' =>
      e = .returned (.slice (some ⟨w.heap.size, 0, none⟩) (n + 1) G) ∧ w' = (((w.alloc (.cells r0 52)).drew.setRow w.heap.size r1).drew).setRow w.heap.size r2 := by
  obtain ⟨i0, hi0, hz0, hzs, hzb⟩ := info_parts info52
  have hsz : (Try.prog.info? 52).map (·.size) = some 4 := by rw [hi0]; simp [hzs]
  have hg : g < w.heap.size := blk_lt hb
  have hGn : n + 1 ≤ G := by rw [hG]; exact grownCap_ge w _ _ _
  have hG63 : G ≤ 9223372036854775807 := by
    have := grownCap_le_maxLen w (n + 1) cap 52 (by unfold maxLen; omega)
    rw [← hG] at this
    unfold maxLen at this
    omega
  have hcA : ∀ W : World, (Instr.slice 34 (.slice (some ⟨g, 0, none⟩) n cap) (some (.int .i64 (i : Int))) none none).run Try.prog W = .ok (.slice (some ⟨g, i * 4, none⟩) (n - i) (cap - i)) W := fun W => by
    rw [cut_from 34 52 .i64 Try.underlying34 hi0 4 hzs (some ⟨g, 0, none⟩) n cap (i : Int) (by omega) (by omega) W, Int.toNat_natCast, if_neg (by omega), Option.map_some, InsW.add_at, Nat.zero_add]
  have hcB : ∀ W : World, (Instr.slice 34 (.slice (some ⟨g, 0, none⟩) n cap) none (some (.int .i64 (i : Int))) none).run Try.prog W = .ok (.slice (some ⟨g, 0, none⟩) i cap) W := fun W => by
    rw [cut_to 34 52 .i64 Try.underlying34 hi0 (some ⟨g, 0, none⟩) n cap (i : Int) (by omega) (by omega) hnc W, Int.toNat_natCast]
  have hcC : ∀ W : World, (Instr.slice 34 (.slice (some ⟨w.heap.size, 0, none⟩) (n + 1) G) (some (.int .i64 (i : Int))) none none).run Try.prog W = .ok (.slice (some ⟨w.heap.size, i * 4, none⟩) (n + 1 - i) (G - i)) W := fun W => by
    rw [cut_from 34 52 .i64 Try.underlying34 hi0 4 hzs (some ⟨w.heap.size, 0, none⟩) (n + 1) G (i : Int) (by omega) (by omega) W, Int.toNat_natCast, if_neg (by omega), Option.map_some, InsW.add_at, Nat.zero_add]
  have hcD : ∀ W : World, (Instr.slice 34 (.slice (some ⟨w.heap.size, 0, none⟩) (n + 1) G) (some (.int .i64 ((i : Int) + 1))) none none).run Try.prog W = .ok (.slice (some ⟨w.heap.size, (i + 1) * 4, none⟩) (n - i) (G - (i + 1))) W := fun W => by
    rw [cut_from 34 52 .i64 Try.underlying34 hi0 4 hzs (some ⟨w.heap.size, 0, none⟩) (n + 1) G ((i : Int) + 1) (by omega) (by omega) W, show ((i : Int) + 1).toNat = i + 1 by omega, if_neg (by omega), Option.map_some, InsW.add_at, Nat.zero_add, Nat.add_sub_add_right]
  have hall : ∀ j v, (A ++ B)[j]? = some v → w.cell? ⟨g, j, none⟩ = some v := fun j v hj => by
    have hjl : j < (A ++ B).length := (List.getElem?_eq_some_iff.1 hj).1
    rw [List.length_append] at hjl
    rw [blk_cell hb]
    rw [← hcs, List.getElem?_take, if_pos (by omega)] at hj
    simpa using hj
  have hold : (Builtin.firstCells i0.size i (.slice (some ⟨g, 0, none⟩) i cap)).run Try.prog w.drew = .ok A.toArray w.drew := by
    rw [hzs]
    exact run_firstCells_some w.drew 4 i ⟨g, 0, none⟩ i cap A hA (fun j v hj => by
      rw [InsW.add_at, Nat.zero_add]
      exact hall j v (by rw [List.getElem?_append_left (List.getElem?_eq_some_iff.1 hj).1]; exact hj))
  have hik : i + (n + 1 - i) = n + 1 := by omega
  have hkk : (n : Int) + 1 - (i : Int) = ((n + 1 - i : Nat) : Int) := by omega
  have hrz : ∀ ty, (Builtin.append_ #[34, 3] ty #[.slice (some ⟨g, 0, none⟩) i cap, .int .i64 ((n : Int) + 1 - (i : Int))]).run Try.prog w =
      .ok (.slice (some ⟨w.heap.size, 0, none⟩) (n + 1) G) (w.drew.alloc (.cells r0 52)) := fun ty => by
    have h := Lib.run_append_grow_zeros (P := Try.prog) w 34 3 ty 52 i0 _ .i64 .i64 Try.underlying34 Try.underlying3 hi0 hz0 (some ⟨g, 0, none⟩) i cap A hold (n + 1 - i) (by omega) (by omega) (by omega) (by omega) (by rw [hzb]; omega) (by rw [hzb, hik]; exact growslice_fits hroom (by omega))
    rw [hik] at h
    rw [hkk, hr0, hG]
    exact h
  have hr0s : r0.size = G * 4 := by
    rw [hr0]
    simp only [Array.size_append, InsW.zeros_len, List.size_toArray]
    simp
    omega
  have hr1s : r1.size = r0.size := by
    rw [hr1]
    simp
    omega
  obtain ⟨W1, hW1⟩ : ∃ W1, W1 = w.drew.alloc (.cells r0 52) := ⟨_, rfl⟩
  rw [← hW1] at hrz
  have hb0 : W1.heap[w.heap.size]? = some (.cells r0 52 (0, 0)) := by rw [hW1]; exact heap_alloc_new w.drew _
  have hO : ∀ b j v, b < w.heap.size → w.cell? ⟨b, j, none⟩ = some v → W1.cell? ⟨b, j, none⟩ = some v := fun b j v hlt h => by rw [hW1, World.cell?_alloc_past (w := w.drew) _ b j hlt]; exact h
  have hcpA : ∀ (ty : TypeId) (dc : Nat) (W : World), W.heap = W1.heap → (Builtin.copy_ #[34, 34] ty #[.slice (some ⟨w.heap.size, i * 4, none⟩) (n + 1 - i) dc, .slice (some ⟨vb, voff, none⟩) 1 vc]).run Try.prog W = .ok (goInt (Nat.min 1 (n + 1 - i))) (W.setRow w.heap.size r1) := fun ty dc W hW => by
    rw [hr1]
    exact InsW.copy W 34 34 ty 52 4 w.heap.size (i * 4) (n + 1 - i) dc ⟨vb, voff, none⟩ 1 vc r0 52 Z Try.underlying34 hsz (by rw [hW]; exact hb0) (by rw [hZ]; simp only [Nat.min_def]; split <;> omega)
      (fun j v hj => by
        rw [InsW.add_at]
        have := hO _ _ _ hvb (hz j v hj)
        unfold World.cell? at *
        rw [hW]
        exact this) (by omega) h1z
  have hb1 : (W1.setRow w.heap.size r1).heap[w.heap.size]? = some (.cells r1 52 (0, 0)) := setRow_heap W1 w.heap.size r0 r1 52 (0, 0) hb0
  have hO1 : ∀ b j v, b < w.heap.size → w.cell? ⟨b, j, none⟩ = some v → (W1.setRow w.heap.size r1).cell? ⟨b, j, none⟩ = some v := fun b j v hlt h => by
    have := hO b j v hlt h
    unfold World.cell? World.setRow at *
    simp only [Array.getElem?_modify]
    rw [if_neg (by omega)]
    exact this
  have hcpB : ∀ (ty : TypeId) (dc sc : Nat) (W : World), W.heap = (W1.setRow w.heap.size r1).heap → (Builtin.copy_ #[34, 34] ty #[.slice (some ⟨w.heap.size, (i + 1) * 4, none⟩) (n - i) dc, .slice (some ⟨g, i * 4, none⟩) (n - i) sc]).run Try.prog W = .ok (goInt (Nat.min (n - i) (n - i))) (W.setRow w.heap.size r2) := fun ty dc sc W hW => by
    rw [hr2]
    exact InsW.copy W 34 34 ty 52 4 w.heap.size ((i + 1) * 4) (n - i) dc ⟨g, i * 4, none⟩ (n - i) sc r1 52 B Try.underlying34 hsz (by rw [hW]; exact hb1) (by rw [hB]; simp only [Nat.min_def]; split <;> omega)
      (fun j v hj => by
        rw [InsW.add_at]
        have := hO1 _ _ _ hg (hall (i * 4 + j) v (by rw [List.getElem?_append_right (by omega), hA, show i * 4 + j - i * 4 = j by omega]; exact hj))
        unfold World.cell? at *
        rw [hW]
        exact this) (by omega) h1
  have hw1 : IntKind.i64.wrap ((i : Int) + 1) = (i : Int) + 1 := by rw [IntKind.wrap_i64]; omega
  have hw2 : IntKind.i64.wrap ((n : Int) + 1) = (n : Int) + 1 := by rw [IntKind.wrap_i64]; omega
  have hw3 : IntKind.i64.wrap ((n : Int) + 1 - (i : Int)) = (n : Int) + 1 - (i : Int) := by rw [IntKind.wrap_i64]; omega
  have hz2 : ¬ ((i : Int) = (n : Int)) := by omega
  have hz3 : (cap : Int) < (n : Int) + 1 := by omega
  have hn1 : (n : Int) ≤ 2000000 := by omega
  have hi1 : (i : Int) ≤ 2000000 := by omega
  have hi2 : (i : Int) ≤ (n : Int) := by omega
  have hE : ∀ W : World, W = W1.setRow w.heap.size r1 → True := fun _ _ => trivial
  subst hW1
  have hcpA' : ∀ (ty : TypeId) (dc : Nat), (Builtin.copy_ #[34, 34] ty #[.slice (some ⟨w.heap.size, i * 4, none⟩) (n + 1 - i) dc, .slice (some ⟨vb, voff, none⟩) 1 vc]).run Try.prog (w.alloc (.cells r0 52)).drew = .ok (goInt (Nat.min 1 (n + 1 - i))) ((w.alloc (.cells r0 52)).drew.setRow w.heap.size r1) := fun ty dc => hcpA ty dc _ rfl
  have hcpB' : ∀ (ty : TypeId) (dc sc : Nat), (Builtin.copy_ #[34, 34] ty #[.slice (some ⟨w.heap.size, (i + 1) * 4, none⟩) (n - i) dc, .slice (some ⟨g, i * 4, none⟩) (n - i) sc]).run Try.prog ((w.alloc (.cells r0 52)).drew.setRow w.heap.size r1).drew = .ok (goInt (Nat.min (n - i) (n - i))) (((w.alloc (.cells r0 52)).drew.setRow w.heap.size r1).drew.setRow w.heap.size r2) := fun ty dc sc => hcpB ty dc sc _ rfl
  clear hcpA hcpB
  clear hr0 hr1 hr2 hcs hz hb hb0 hb1 hO hO1 hall hold h1 h1z hA hB hZ hr0s hr1s hcur hsz hG hkk hik hE hGn
  have mixed : Try.prog.follows Departure.mixedOrders = true := by kernel_rfl
  go_enter Try.func69, Try.ntmps69
  go_wp2_with (at_builtin; refine Lib.wpList_append_run _ rfl _ _ _ _ rfl _ _ rfl rfl _ _ (hrz _) ?_)
  go_region_law_o (refine step_copy_runI rfl _ _ 34 34 rfl (.slice (some ⟨w.heap.size, (i + 1) * 4, none⟩) (n - i) (G - (i + 1))) (.slice (some ⟨g, i * 4, none⟩) (n - i) (cap - i)) (by simp [Act.eval, Act.put]) (by simp [Act.eval, Act.put]) (hcpB' _ _ _) ?_)
  go_wp2
  go_ret
  exact ⟨rfl, rfl⟩
set_option maxHeartbeats 8000000 in
set_option maxRecDepth 100000 in
theorem InsW.atEnd (P0_ : Nat → Prop) (A0 : Option Addr) (cap n vb voff vc : Nat) (l0 : List S52) (z : S52) (w0 w : World) (hn : n = l0.length) (hB : Below w0.heap.size w0 w) (ho0 : Kd.R k52 52 w w0.heap.size P0_ (.slice A0 n cap) l0)
    (hbig : n ≤ 2000000) (hz : Kd.C k52 w (some ⟨vb, voff, none⟩) 1 [z]) :
    Calls Try.prog 69 #[.slice A0 n cap, .int .i64 n, .slice (some ⟨vb, voff, none⟩) 1 vc] w fun e w' => ∃ v0_ : Value, e = .returned (v0_) ∧ Kd.R k52 52 w' w0.heap.size (fun k_ => (P0_ k_ ∨ w.heap.size ≤ k_)) v0_ (l0 ++ [z]) ∧ Below w0.heap.size w0 w' ∧ Kept w w' (fun k_ => P0_ k_) := by
  obtain ⟨i0, hi0, hz0, hzs, hzb⟩ := info_parts info52
  have hcA : ∃ A', ∀ W : World, (Instr.slice 34 (.slice A0 n cap) (some (.int .i64 (n : Int))) none none).run Try.prog W = .ok (.slice A' (n - n) (cap - n)) W := ⟨_, fun W => by
    rw [cut_from 34 52 .i64 Try.underlying34 hi0 4 hzs A0 n cap (n : Int) (by omega) (by omega) W, Int.toNat_natCast]⟩
  obtain ⟨A', hcA⟩ := hcA
  have HO := Aside0.mk (show Kd.R k52 52 w w0.heap.size (fun k_ => (P0_ k_ ∨ w.heap.size ≤ k_)) (.slice A0 n cap) l0 from Kd.R_mono ho0 (fun _ hk => .inl hk))
  have HP := Aside0.mk ho0.1
  have HZ := Aside0.mk hz
  have HB := Aside0.mk hB
  have HN := Aside0.mk hn
  have HL := Aside0.mk hbig
  clear ho0 hz hB hn hi0 hz0 hzs hzb
  go_enter Try.func69, Try.ntmps69
  go_wp2_with ((with_reducible refine gate_builtin (b := .append) (xs := #[.tmp 23, .tmp 24]) rfl ?_); (try (refine gate_guard (by rfl) ?_; dsimp only)); at_builtin; refine Kd.R_append_rows k52 (w0 := w0) w0.heap.size rfl (.tmp 23) (.tmp 24) 34 52 (.agg #[(.int .i64 0), (.int .i64 0), (.int .i64 0), (.int .i64 0)]) 32 rfl Try.underlying34 info52 rfl (by decide) (by omega) (.slice A0 n cap) l0 [z] _ _ _ (fun k_ => (P0_ k_ ∨ w.heap.size ≤ k_)) (fun _ => False) rfl rfl HO.out HZ.out (fun _ _ h => h) (fun _ h => h.elim) (fun _ hk => .inr hk) HB.out HB.out.size (by have := HN.out; have := HL.out; omega) ?_; intro v1 w1 ho hb hg hat; have n0_ := Aside0.mk ho; have n1_ := Aside0.mk hb; have n2_ := Aside0.mk hg; clear ho hb hg hat)
  go_ret
  exact ⟨_, rfl, n0_.out, n1_.out, Kept.of_grown n2_.out (Kept.refl _ _) (fun k hk => .inl (HP.out k hk))⟩
theorem InsW.heap_setRow_ne (w : World) (g k : Nat) (r : Array Value) (h : k ≠ g) : (w.setRow g r).heap[k]? = w.heap[k]? := by
  unfold World.setRow
  simp only [Array.getElem?_modify]
  rw [if_neg (fun e => h e.symm)]
theorem InsW.size_setRow (w : World) (g : Nat) (r : Array Value) : (w.setRow g r).heap.size = w.heap.size := by unfold World.setRow; simp
theorem InsW.grown2 (w : World) (g : Nat) (r1 r2 : Array Value) : w.grownBy ((w.drew.setRow g r1).setRow g r2) (some g) :=
  ⟨rfl, rfl, rfl, by rw [InsW.size_setRow, InsW.size_setRow]; exact Nat.le_refl _, fun k _ hne => by
    have hk : k ≠ g := fun e => hne (by rw [e])
    rw [InsW.heap_setRow_ne _ _ _ _ hk, InsW.heap_setRow_ne _ _ _ _ hk]
    rfl⟩
theorem InsW.grownN (w : World) (r0 r1 r2 : Array Value) : w.grownBy ((((w.alloc (.cells r0 52)).drew.setRow w.heap.size r1).drew).setRow w.heap.size r2) none :=
  ⟨rfl, rfl, rfl, by rw [InsW.size_setRow, InsW.drew_setRow, InsW.size_setRow]; show w.heap.size ≤ (w.alloc (.cells r0 52)).heap.size; simp, fun k hk _ => by
    have hk' : k ≠ w.heap.size := by omega
    rw [InsW.heap_setRow_ne _ _ _ _ hk', InsW.drew_setRow, InsW.heap_setRow_ne _ _ _ _ hk']
    show (w.alloc (.cells r0 52)).heap[k]? = _
    exact (below_alloc (Below.refl _ _) _).block k hk⟩
def impl_Ins_69.f (l0 : List S52) (a1 : Int) (l2 : List S52) : Option (List S52) := if l0.length ≤ 2000000 ∧ 0 ≤ a1 ∧ a1 ≤ (l0.length : Int) ∧ l2.length = 1 then some (l0.take a1.toNat ++ l2 ++ l0.drop a1.toNat) else none
theorem impl_Ins_69.calls (P0_ : Nat → Prop) (u9000_ : Value) (l0 : List (S52)) (a1 : Int) (A2 : Option Addr) (c2 : Nat) (l2 : List (S52)) (r : List (S52)) (w0 w : World) (hB : Below w0.heap.size w0 w) (ho0 : Kd.R k52 52 w w0.heap.size P0_ u9000_ l0)
    (hr2 : ∀ W_, Kept w W_ (fun k_ => P0_ k_) → Kd.C k52 W_ A2 l2.length l2) (hc2 : l2.length ≤ c2) (h : impl_Ins_69.f l0 a1 l2 = some r) :
    Calls Try.prog 69 #[u9000_, .int .i64 a1, .slice A2 l2.length c2] w fun e w' => ∃ v0_ : Value, e = .returned (v0_) ∧ Kd.R k52 52 w' w0.heap.size (fun k_ => (P0_ k_ ∨ w.heap.size ≤ k_)) v0_ r ∧ Below w0.heap.size w0 w' ∧ Kept w w' (fun k_ => P0_ k_) := by
  unfold impl_Ins_69.f at h
  by_cases hb : l0.length ≤ 2000000 ∧ 0 ≤ a1 ∧ a1 ≤ (l0.length : Int) ∧ l2.length = 1
  · rw [if_pos hb] at h
    obtain rfl := Option.some.inj h
    clear h
    obtain ⟨hlen, hp, hq, hl2⟩ := hb
    obtain ⟨z, rfl⟩ : ∃ z, l2 = [z] := List.length_eq_one_iff.1 hl2
    obtain ⟨i, rfl⟩ := Int.eq_ofNat_of_zero_le hp
    have hin : i ≤ l0.length := by omega
    rw [Int.toNat_natCast]
    show Calls Try.prog 69 #[u9000_, .int .i64 (i : Int), .slice A2 1 c2] w _
    have hrd : Kd.C k52 w A2 1 [z] := hr2 w (Kept.refl _ _)
    have key : ∀ W, Kd.C k52 W A2 1 [z] → ∃ vb voff, A2 = some ⟨vb, voff, none⟩ ∧ ∀ j v, (InsW.flat [z])[j]? = some v → W.cell? ⟨vb, voff + j, none⟩ = some v := by
      intro W hC
      obtain ⟨ad, rfl, _⟩ := hC.2.2 (by decide)
      obtain ⟨zs, hzr, hzc⟩ := ReadsRow.inner_ hC
      obtain rfl := InsW.flat_of (fun x cs h => k52_open h) [z] zs hzr
      obtain ⟨b, off, spot⟩ := ad
      cases spot with
      | some s =>
        have := hzc 0 _ rfl
        unfold World.cell? Addr.add at this
        simp at this
        split at this <;> cases this
      | none => exact ⟨b, off, rfl, fun j v hj => by have := hzc j v hj; rwa [InsW.add_at] at this⟩
    obtain ⟨vb, voff, rfl, hz⟩ := key w hrd
    have hz0 := hz 0 _ rfl
    rw [Nat.add_zero] at hz0
    obtain ⟨tA, kA, hsa, hkA⟩ : ∃ tA kA, w.shape? vb = some (tA, kA) ∧ kA ≠ 0 := by
      unfold World.cell? at hz0
      cases hh : w.heap[vb]? with
      | none => simp [hh] at hz0
      | some o =>
        cases o with
        | cells c e f =>
          simp [hh] at hz0
          exact ⟨e, c.size, by simp [World.shape?, hh], by
            obtain ⟨hl, _⟩ := Array.getElem?_eq_some_iff.1 hz0
            omega⟩
        | _ => simp [hh] at hz0
    have hvw : vb < w.heap.size := block_lt_of_cell hz0
    obtain ⟨hok, inner, hown, hrr⟩ := ho0
    have hin_ : inner = InsW.flat l0 := InsW.flat_of (fun x cs h => k52_openM h) l0 inner hrr
    subst hin_
    rcases hown.2 with ⟨rfl, h0⟩ | ⟨g, cap, cur, rfl, hbase, hbk, h1, h2, h3, h4⟩
    · have hl0 : l0 = [] := List.eq_nil_of_length_eq_zero h0
      subst hl0
      obtain rfl : i = 0 := by simpa using hin
      exact InsW.atEnd P0_ none 0 0 vb voff c2 [] z w0 w rfl hB ⟨hok, _, hown, hrr⟩ (by omega) hrd
    · have hPg : P0_ g := hok g rfl
      replace h3 : cur.size = cap * 4 := h3
      replace h4 : cur.toList.take (l0.length * 4) = InsW.flat l0 := h4
      by_cases hie : i = l0.length
      · rw [hie, List.take_length, List.drop_length, List.append_nil]
        exact InsW.atEnd P0_ (some ⟨g, 0, none⟩) cap l0.length vb voff c2 l0 z w0 w rfl hB ⟨hok, _, hown, hrr⟩ hlen hrd
      · have hilt : i < l0.length := by omega
        have hvg : vb ≠ g := by
          rintro rfl
          obtain ⟨vb', voff', e, hz'⟩ := key _ (hr2 (w.setCell ⟨vb, voff, none⟩ (.bool true)) ((Kept.refl _ _).setCell (.inl hPg) _))
          injection e with e
          injection e with e1 e2
          subst e1 e2
          have h5 := hz' 0 _ rfl
          rw [Nat.add_zero, World.cell?_setCell_same _ _ _ hz0] at h5
          cases h5
        have hcs : cur.toList.take (l0.length * 4) = InsW.flat (l0.take i) ++ InsW.flat (l0.drop i) := by
          rw [h4, ← InsW.flat_append, List.take_append_drop]
        have hAl : (InsW.flat (l0.take i)).length = i * 4 := by rw [InsW.flat_length, List.length_take, Nat.min_eq_left hin]
        have hBl : (InsW.flat (l0.drop i)).length = (l0.length - i) * 4 := by rw [InsW.flat_length, List.length_drop]
        have hZl : (InsW.flat [z]).length = 4 := rfl
        have hres : l0.length + 1 = (l0.take i ++ [z] ++ l0.drop i).length := by simp; omega
        have hflat : InsW.flat (l0.take i ++ [z] ++ l0.drop i) = InsW.flat (l0.take i) ++ InsW.flat [z] ++ InsW.flat (l0.drop i) := by rw [InsW.flat_append, InsW.flat_append]
        by_cases hroom : l0.length + 1 ≤ cap
        · refine (InsW.shift g l0.length cap i vb voff c2 cur _ _ _ _ _ w hilt hroom (by unfold maxLen at h2; omega) hlen hvg hbk h3 hAl hBl hZl hcs hz (InsW.flat_one _) (InsW.flat_one _) tA kA hsa hkA rfl rfl).mono ?_
          rintro e w' ⟨rfl, rfl⟩
          have hg := InsW.grown2 w g (cur.toList.take ((i + 1) * 4) ++ InsW.flat (l0.drop i) ++ cur.toList.drop ((i + 1) * 4 + (InsW.flat (l0.drop i)).length)).toArray ((cur.toList.take ((i + 1) * 4) ++ InsW.flat (l0.drop i) ++ cur.toList.drop ((i + 1) * 4 + (InsW.flat (l0.drop i)).length)).toArray.toList.take (i * 4) ++ InsW.flat [z] ++ (cur.toList.take ((i + 1) * 4) ++ InsW.flat (l0.drop i) ++ cur.toList.drop ((i + 1) * 4 + (InsW.flat (l0.drop i)).length)).toArray.toList.drop (i * 4 + (InsW.flat [z]).length)).toArray
          have hsh := InsW.shifted cur.toList (InsW.flat (l0.take i)) (InsW.flat [z]) (InsW.flat (l0.drop i)) (by rw [hAl, hBl, ← Nat.add_mul, Nat.add_sub_cancel' hin]; exact hcs) (by rw [hAl, hBl, hZl]; simp; omega)
          refine ⟨_, rfl, InsW.row_of hres hbase (setRow_heap _ g _ _ 52 (0, 0) (setRow_heap w.drew g cur _ 52 (0, 0) hbk)) hroom h2 ?_ ?_ (.inl hPg), pw_below_grown hB (some g) hB.size hg (fun k hk => by cases hk; exact hbase), Kept.of_grown hg (Kept.refl _ _) (fun k hk => .inl (by cases hk; exact hPg))⟩
          · simp
            omega
          · rw [hflat, ← hsh]
            simp only [hAl, hBl, hZl]
            rw [show (l0.length + 1) * 4 = i * 4 + 4 + (l0.length - i) * 4 by omega, show (i + 1) * 4 = i * 4 + 4 by omega]
        · refine (InsW.grow g l0.length cap i vb voff c2 cur _ _ _ _ _ _ _ w hilt h1 (by omega) hlen hvw hbk h3 hAl hBl hZl hcs hz (InsW.flat_one _) (InsW.flat_one _) rfl rfl rfl rfl).mono ?_
          rintro e w' ⟨rfl, rfl⟩
          have hGn : l0.length + 1 ≤ grownCap w (l0.length + 1) cap 52 := grownCap_ge w _ _ _
          have hGm : grownCap w (l0.length + 1) cap 52 ≤ maxLen := grownCap_le_maxLen w (l0.length + 1) cap 52 (by unfold maxLen; omega)
          generalize grownCap w (l0.length + 1) cap 52 = G at hGn hGm ⊢
          obtain ⟨r0, hr0⟩ : ∃ r0, r0 = (InsW.flat (l0.take i)).toArray ++ Builtin.zeroCells #[.int .i64 0, .int .i64 0, .int .i64 0, .int .i64 0] (l0.length + 1 - i) ++ Builtin.zeroCells #[.int .i64 0, .int .i64 0, .int .i64 0, .int .i64 0] (G - (l0.length + 1)) := ⟨_, rfl⟩
          rw [← hr0]
          have hr0s : r0.size = G * 4 := by
            rw [hr0]
            simp only [Array.size_append, InsW.zeros_len, List.size_toArray, hAl]
            simp
            omega
          have hr0t : r0.toList.take (InsW.flat (l0.take i)).length = InsW.flat (l0.take i) := by
            rw [hr0, Array.toList_append, Array.toList_append, List.append_assoc, List.take_left' rfl]
          obtain ⟨r1, hr1⟩ : ∃ r1, r1 = (r0.toList.take (i * 4) ++ InsW.flat [z] ++ r0.toList.drop (i * 4 + (InsW.flat [z]).length)).toArray := ⟨_, rfl⟩
          rw [← hr1]
          obtain ⟨r2, hr2_⟩ : ∃ r2, r2 = (r1.toList.take ((i + 1) * 4) ++ InsW.flat (l0.drop i) ++ r1.toList.drop ((i + 1) * 4 + (InsW.flat (l0.drop i)).length)).toArray := ⟨_, rfl⟩
          rw [← hr2_]
          have hg := InsW.grownN w r0 r1 r2
          have hsh := InsW.spliced r0.toList (InsW.flat (l0.take i)) (InsW.flat [z]) (InsW.flat (l0.drop i)) hr0t (by rw [hAl, hBl, hZl]; simp; omega)
          have hr1s : r1.size = G * 4 := by
            rw [hr1]
            simp
            omega
          refine ⟨_, rfl, InsW.row_of hres hB.size (setRow_heap _ w.heap.size _ _ 52 (0, 0) (setRow_heap (w.alloc (.cells r0 52)).drew w.heap.size r0 _ 52 (0, 0) (heap_alloc_new w _))) hGn hGm ?_ ?_ (.inr (Nat.le_refl _)), pw_below_grown hB none hB.size hg (fun k hk => by cases hk), Kept.of_grown hg (Kept.refl _ _) (fun k hk => by cases hk)⟩
          · rw [hr2_]
            simp
            omega
          · rw [hflat, ← hsh, hr2_, hr1]
            simp only [hAl, hBl, hZl]
            rw [show (l0.length + 1) * 4 = i * 4 + 4 + (l0.length - i) * 4 by omega, show (i + 1) * 4 = i * 4 + 4 by omega]
  · rw [if_neg hb] at h
    cases h


end Go.Proofs.Ytomehbmijdjjfaa.HN
