/- The statements FnExactIsValidLog and FnExactSyncLog over texts alone; conditions: texts below 2^47 bytes. -/
import Derived.Test.YtonfhfcpnoehjaaDoorPureF
namespace Go.Proofs.YtonfhfcpnoehjaaDoor.Pure
open Go.RowKit Go.Proofs.YtonfhfcpnoehjaaDoorW.PrintWords Go.Proofs.YtonfhfcpnoehjaaDoorW.PrintLast Go.Proofs.YtonfhfcpnoehjaaDoor.Giv Go.Proofs.YtonfhfcpnoehjaaDoor.L Go.Proofs.YtonfhfcpnoehjaaDoor.Plain

/-! ### A prefix of a log is read as the log is -/
theorem rec_left {n : Nat} {l m : List UInt8} {e : S27} (h : recAt n (l ++ m) = some e) (hl : lineLen n e ≤ l.length) : recAt n l = some e := by
  obtain ⟨hk, hv, rest, hr⟩ := recAt_is h
  rw [lineLen_eq] at hl
  refine recAt_some (c := e.f0) (r := e.f1) ⟨hk, hv, l.drop ((stemB (n : Int) e.f0 e.f1).data.toList.length + 1), ?_⟩
  have h1 : (l ++ m).take ((stemB (n : Int) e.f0 e.f1).data.toList.length + 1) = (stemB (n : Int) e.f0 e.f1).data.toList ++ [10] := by
    rw [hr, List.take_append, List.take_of_length_le (by omega)]
    simp
  rw [List.take_append_of_le_length hl] at h1
  calc l = l.take ((stemB (n : Int) e.f0 e.f1).data.toList.length + 1) ++ l.drop ((stemB (n : Int) e.f0 e.f1).data.toList.length + 1) := (List.take_append_drop _ _).symm
    _ = _ := by rw [h1]; simp
theorem rec_right {n : Nat} {l : List UInt8} (m : List UInt8) {e : S27} (h : recAt n l = some e) : recAt n (l ++ m) = some e := by
  obtain ⟨hk, hv, rest, hr⟩ := recAt_is h
  exact recAt_some (c := e.f0) (r := e.f1) ⟨hk, hv, rest ++ m, by rw [hr]; simp⟩
theorem prefix_iff (f : Nat) : ∀ (k a : Nat) (l m : List UInt8), ((runL f k l).2.sum = l.length ↔ ((a + l.length : Nat) : Int) ∈ ((a : Nat) : Int) :: scanI a (runL f k (l ++ m)).2) := by
  induction f with
  | zero =>
    intro k a l m
    simp only [runL, scanI, List.sum_nil, List.mem_cons, List.not_mem_nil, or_false]
    omega
  | succ f ih =>
    intro k a l m
    cases h : recAt k (l ++ m) with
    | none =>
      have h1 : recAt k l = none := by
        cases h2 : recAt k l with
        | none => rfl
        | some e => rw [rec_right m h2] at h; cases h
      simp only [runL, h, h1, scanI, List.sum_nil, List.mem_cons, List.not_mem_nil, or_false]
      omega
    | some e =>
      by_cases hl : lineLen k e ≤ l.length
      · have h1 := rec_left h hl
        have hp : 0 < lineLen k e := by rw [lineLen_eq]; omega
        have e1 : (l ++ m).drop (lineLen k e) = l.drop (lineLen k e) ++ m := by rw [List.drop_append_of_le_length hl]
        have := ih (k + 1) (a + lineLen k e) (l.drop (lineLen k e)) m
        simp only [runL, h, h1, scanI, List.sum_cons, e1]
        rw [List.length_drop] at this
        rw [show lineLen k e + (runL f (k + 1) (l.drop (lineLen k e))).2.sum = l.length ↔ (runL f (k + 1) (l.drop (lineLen k e))).2.sum = l.length - lineLen k e by omega, this, show a + lineLen k e + (l.length - lineLen k e) = a + l.length by omega]
        rw [List.mem_cons (a := ((a + l.length : Nat) : Int)) (b := ((a : Nat) : Int))]
        constructor
        · exact fun hh => .inr hh
        · rintro (hh | hh)
          · omega
          · exact hh
      · have h1 : recAt k l = none := by
          cases h2 : recAt k l with
          | none => rfl
          | some e' =>
            have h3 := rec_right m h2
            rw [h] at h3
            obtain rfl := Option.some.inj h3
            exact absurd (rec_len h2) hl
        have hge : ∀ (t : List Nat) (b : Nat) (x : Int), x ∈ scanI b t → (b : Int) ≤ x := by
          intro t
          induction t with
          | nil => intro b x hx; simp [scanI] at hx
          | cons n t iht =>
            intro b x hx
            simp only [scanI, List.mem_cons] at hx
            rcases hx with hx | hx
            · omega
            · have := iht (b + n) x hx; omega
        simp only [runL, h, h1, scanI, List.sum_nil, List.mem_cons]
        constructor
        · intro hh; left; omega
        · rintro (hh | hh | hh)
          · omega
          · omega
          · have := hge _ _ _ hh; omega

/-! ### A log that is valid -/
noncomputable def validLog (d p : ByteArray) (n : Int) : Bool :=
  decide (d.size + p.size ≤ 30000) && decide ((runL 60 0 (d.data.toList ++ p.data.toList)).2.sum = d.size + p.size) && decide ((runL 60 0 d.data.toList).2.sum = d.size) && decide (((runL 60 0 (d.data.toList ++ p.data.toList)).1.length : Int) = n)
noncomputable def allOf (d p : ByteArray) : List S27 := (runL 60 0 (d.data.toList ++ p.data.toList)).1
theorem spec_valid_ev (d p : ByteArray) (n : Int) (hs : d.size + p.size ≤ 1048576) : Ev (fun k => spec_l12Valid.f k d p n) (validLog d p n) := by
  unfold spec_l12Valid.f validLog
  rw [wrap_in (n := (d.size : Int) + (p.size : Int)) (by omega) (by omega)]
  by_cases h1 : d.size + p.size ≤ 30000
  · refine Ev.no (by omega) (Ev.yes (by omega) ?_)
    have o1 := open_ev (d ++ p) (by rw [ByteArray.size_append]; omega)
    rw [data_append] at o1
    refine Ev.bind o1 (Ev.bind (open_ev d (by omega)) ?_)
    by_cases h2 : (runL 60 0 (d.data.toList ++ p.data.toList)).2.sum = d.size + p.size
    · refine Ev.yes (by show ((_ : Nat) : Int) = _; rw [h2]; omega) ?_
      by_cases h3 : (runL 60 0 d.data.toList).2.sum = d.size
      · refine Ev.yes (by show ((_ : Nat) : Int) = _; rw [h3]) (Ev.const ?_)
        simp only [h1, h2, h3, decide_true, Bool.true_and]
        rfl
      · refine Ev.no (by show ¬ ((_ : Nat) : Int) = _; omega) (Ev.const ?_)
        simp [h3]
    · refine Ev.no (by show ¬ ((_ : Nat) : Int) = _; omega) (Ev.const ?_)
      simp [h2]
  · refine Ev.yes (by omega) (Ev.const ?_)
    simp [h1]
/-- What the program's records tells. -/
noncomputable def recordsB (d p : ByteArray) (n : Int) : List S27 × Bool := if validLog d p n = true then (allOf d p, true) else ([], false)
theorem find_l (d p : ByteArray) (n : Int) (out : List S27) (ends : List Int) (he : ends.length ≤ 61) (m : Nat) : ∀ i : Nat, ends.length - i = m → i ≤ ends.length →
    Ev (fun k => impl_Log_records.l0 k out ends (ends.length : Int) (i : Int) d p n) (if (d.size : Int) ∈ ends.drop i then (out, true) else ([], false)) := by
  induction m with
  | zero =>
    intro i hm hi
    refine Ev.step (fun k => by rw [impl_Log_records.l0]) ?_
    refine Ev.no (by omega) (Ev.const ?_)
    rw [List.drop_of_length_le (by omega)]
    simp
  | succ m ih =>
    intro i hm hi
    refine Ev.step (fun k => by rw [impl_Log_records.l0]) ?_
    refine Ev.yes (by omega) (Ev.yes (by omega) (Ev.yes (by omega) ?_))
    have hd : ends.drop i = ends[i]'(by omega) :: ends.drop (i + 1) := List.drop_eq_getElem_cons (by omega)
    have hr : rd ends (i : Int) = ends[i]'(by omega) := by unfold rd; rw [Int.toNat_natCast, List.getD_eq_getElem?_getD, List.getElem?_eq_getElem (by omega)]; rfl
    rw [hr, hd]
    by_cases hx : ends[i]'(by omega) = (d.size : Int)
    · refine Ev.yes hx (Ev.const ?_)
      rw [if_pos (by rw [hx]; exact List.mem_cons_self)]
    · refine Ev.no hx ?_
      rw [wrap_in (by omega) (by omega)]
      refine Ev.to (ih (i + 1) (by omega) (by omega)) ?_
      have : ((d.size : Int) ∈ ends[i]'(by omega) :: ends.drop (i + 1)) ↔ ((d.size : Int) ∈ ends.drop (i + 1)) := by
        rw [List.mem_cons]
        constructor
        · rintro (h | h)
          · exact absurd h.symm hx
          · exact h
        · exact .inr
      simp only [this]
theorem records_ev (d p : ByteArray) (n : Int) (hs : d.size + p.size ≤ 1048576) : Ev (fun k => impl_Log_records.f k d p n) (recordsB d p n) := by
  unfold impl_Log_records.f recordsB validLog
  rw [wrap_in (n := (d.size : Int) + (p.size : Int)) (by omega) (by omega)]
  by_cases h1 : d.size + p.size ≤ 30000
  · have o1 := readLog_ev (d ++ p) (by rw [ByteArray.size_append]; omega)
    rw [data_append] at o1
    have hl := runL_len 60 0 (d.data.toList ++ p.data.toList)
    have hm := runL_most 60 0 (d.data.toList ++ p.data.toList)
    have hr := rd_last (runL 60 0 (d.data.toList ++ p.data.toList)).2 0
    rw [← hl] at hr
    have hr' : rd (0 :: scanI 0 (runL 60 0 (d.data.toList ++ p.data.toList)).2) ((runL 60 0 (d.data.toList ++ p.data.toList)).1.length : Int) = ((runL 60 0 (d.data.toList ++ p.data.toList)).2.sum : Int) := by simpa using hr
    have hpre := prefix_iff 60 0 0 d.data.toList p.data.toList
    rw [size_list, Nat.zero_add, show ((0 : Nat) : Int) = 0 from rfl] at hpre
    have hno : Ev (fun k => impl_Log_records.j0 k (runL 60 0 (d.data.toList ++ p.data.toList)).1 (0 :: scanI 0 (runL 60 0 (d.data.toList ++ p.data.toList)).2) false d p n) ([], false) := by
      refine Ev.step (fun k => by rw [impl_Log_records.j0]) ?_
      exact Ev.no (by simp) (Ev.const rfl)
    refine Ev.no (by omega) (Ev.yes (by omega) (Ev.bind o1 ?_))
    by_cases h2 : ((runL 60 0 (d.data.toList ++ p.data.toList)).1.length : Int) = n
    · refine Ev.yes h2 (Ev.yes (by omega) (Ev.yes (by simp [scanI_len]; omega) ?_))
      rw [hr']
      by_cases h3 : (runL 60 0 (d.data.toList ++ p.data.toList)).2.sum = d.size + p.size
      · rw [show (((runL 60 0 (d.data.toList ++ p.data.toList)).2.sum : Int) == (d.size : Int) + (p.size : Int)) = true by rw [h3]; simp]
        refine Ev.step (fun k => by rw [impl_Log_records.j0]) ?_
        refine Ev.yes rfl ?_
        have hfind := find_l d p n (runL 60 0 (d.data.toList ++ p.data.toList)).1 (0 :: scanI 0 (runL 60 0 (d.data.toList ++ p.data.toList)).2) (by simp [scanI_len]; omega) _ 0 rfl (by omega)
        refine Ev.to hfind ?_
        rw [List.drop_zero]
        by_cases h4 : (runL 60 0 d.data.toList).2.sum = d.size
        · rw [if_pos (hpre.1 h4), if_pos (by simp [h1, h2, h3, h4])]
          rfl
        · rw [if_neg (fun hh => h4 (hpre.2 hh)), if_neg (by simp [h4])]
      · rw [show (((runL 60 0 (d.data.toList ++ p.data.toList)).2.sum : Int) == (d.size : Int) + (p.size : Int)) = false by rw [beq_eq_false_iff_ne]; omega]
        rw [if_neg (by simp [h3])]
        exact hno
    · refine Ev.no h2 ?_
      rw [if_neg (by simp [h2])]
      exact hno
  · refine Ev.yes (by omega) (Ev.const ?_)
    rw [if_neg (by simp [h1])]
theorem spec_isValid_ev (d p : ByteArray) (n : Int) (hs : d.size + p.size ≤ 1048576) : Ev (fun k => spec_IsValidLog.f k d p n) (validLog d p n) := by
  unfold spec_IsValidLog.f
  exact Ev.bind (spec_valid_ev d p n hs) (Ev.const rfl)
theorem impl_isValid_ev (d p : ByteArray) (n : Int) (hs : d.size + p.size ≤ 1048576) : Ev (fun k => impl_IsValidLog.f k d p n) (validLog d p n) := by
  unfold impl_IsValidLog.f
  refine Ev.bind (records_ev d p n hs) (Ev.const ?_)
  unfold recordsB
  split
  · rename_i h; rw [h]
  · rename_i h; simp at h; rw [h]
theorem szl (d p : ByteArray) (n : Int) (hd : Big d) (hp : Big p) : ∃ z, laws_szLog.f d p n 1048576 = some z ∧ (¬ z < 0 → d.size + p.size ≤ 1048576) := by
  unfold laws_szLog.f
  unfold Big at hd hp
  rw [wrap_in (n := 1048576 - (d.size : Int)) (by omega) (by omega)]
  split
  · exact ⟨_, rfl, fun h => absurd (by decide) h⟩
  · rw [wrap_in (by omega) (by omega)]
    split
    · exact ⟨_, rfl, fun h => absurd (by decide) h⟩
    · exact ⟨_, rfl, fun _ => by omega⟩
/-- FnExactIsValidLog. -/
theorem FnExactIsValidLog (d p : ByteArray) (n : Int) (hd : Big d) (hp : Big p) (_hn : (Lit.int .i64 n).wf = true) : ∃ k, laws_FnExactIsValidLog.f k d p n = some true := by
  refine Ev.rounds ?_
  unfold laws_FnExactIsValidLog.f
  obtain ⟨z, hz, h⟩ := szl d p n hd hp
  refine Ev.bind0 hz (Ev.ite (fun _ => Ev.const rfl) fun hz0 => ?_)
  have hs := h hz0
  exact Ev.bind0 rfl (Ev.bind (spec_isValid_ev d p n hs) (Ev.bind0 rfl (Ev.bind (impl_isValid_ev d p n hs) (Ev.no (by simp) (Ev.const rfl)))))
#print axioms FnExactIsValidLog
end Go.Proofs.YtonfhfcpnoehjaaDoor.Pure
