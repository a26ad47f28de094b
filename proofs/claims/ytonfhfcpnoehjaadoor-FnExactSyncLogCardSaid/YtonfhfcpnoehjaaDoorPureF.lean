/- The statements FnExactRecoverLog and FnExactIsValidLog (and what SyncLog, CrashLog, AppendRecord and LogRecords ask of a log) over texts alone; conditions: texts below 2^47 bytes. -/
import Derived.Test.YtonfhfcpnoehjaaDoorPureE
namespace Go.Proofs.YtonfhfcpnoehjaaDoor.Pure
open Go.RowKit Go.Proofs.YtonfhfcpnoehjaaDoorW.PrintWords Go.Proofs.YtonfhfcpnoehjaaDoorW.PrintLast Go.Proofs.YtonfhfcpnoehjaaDoor.Giv Go.Proofs.YtonfhfcpnoehjaaDoor.L Go.Proofs.YtonfhfcpnoehjaaDoor.Plain

open Classical in
/-- The record that a text begins with. -/
noncomputable def recAt (n : Nat) (l : List UInt8) : Option S27 := if h : ∃ c r, IsRec (n : Int) l c r then some ⟨h.choose, h.choose_spec.choose⟩ else none
theorem recAt_some {n : Nat} {l : List UInt8} {c r : ByteArray} (h : IsRec (n : Int) l c r) : recAt n l = some ⟨c, r⟩ := by
  unfold recAt
  have hx : ∃ c r, IsRec (n : Int) l c r := ⟨c, r, h⟩
  rw [dif_pos hx]
  obtain ⟨e1, e2⟩ := IsRec.unique (by omega) hx.choose_spec.choose_spec h
  exact congrArg some (by simp only [S27.mk.injEq]; exact ⟨e1, e2⟩)
theorem recAt_none {n : Nat} {l : List UInt8} (h : ∀ c r, ¬ IsRec (n : Int) l c r) : recAt n l = none := by
  unfold recAt
  rw [dif_neg (fun ⟨c, r, hx⟩ => h c r hx)]
theorem recAt_is {n : Nat} {l : List UInt8} {e : S27} (h : recAt n l = some e) : IsRec (n : Int) l e.f0 e.f1 := by
  unfold recAt at h
  split at h
  · rename_i hx
    obtain rfl := Option.some.inj h
    exact hx.choose_spec.choose_spec
  · cases h
def lineLen (n : Nat) (e : S27) : Nat := (lineB (n : Int) e.f0 e.f1).size
theorem lineLen_eq (n : Nat) (e : S27) : lineLen n e = (stemB (n : Int) e.f0 e.f1).data.toList.length + 1 := by unfold lineLen; rw [line_size, size_list]
noncomputable def runL : Nat → Nat → List UInt8 → List S27 × List Nat
  | 0, _, _ => ([], [])
  | f + 1, k, l => match recAt k l with
    | none => ([], [])
    | some e => (e :: (runL f (k + 1) (l.drop (lineLen k e))).1, lineLen k e :: (runL f (k + 1) (l.drop (lineLen k e))).2)
theorem runL_len (f : Nat) : ∀ k l, (runL f k l).1.length = (runL f k l).2.length := by
  induction f with
  | zero => intro k l; rfl
  | succ f ih =>
    intro k l
    unfold runL
    cases recAt k l with
    | none => rfl
    | some e => simp [ih]
theorem runL_most (f : Nat) : ∀ k l, (runL f k l).1.length ≤ f := by
  induction f with
  | zero => intro k l; simp [runL]
  | succ f ih =>
    intro k l
    unfold runL
    cases recAt k l with
    | none => simp
    | some e => have := ih (k + 1) (l.drop (lineLen k e)); simp; omega
theorem rec_len {n : Nat} {l : List UInt8} {e : S27} (h : recAt n l = some e) : lineLen n e ≤ l.length := by
  obtain ⟨_, _, rest, hr⟩ := recAt_is h
  rw [lineLen_eq, hr]
  simp
theorem runL_sum (f : Nat) : ∀ k l, (runL f k l).2.sum ≤ l.length := by
  induction f with
  | zero => intro k l; simp [runL]
  | succ f ih =>
    intro k l
    unfold runL
    cases h : recAt k l with
    | none => simp
    | some e =>
      have h1 := rec_len h
      have h2 := ih (k + 1) (l.drop (lineLen k e))
      simp at h2 ⊢
      omega
def scanI : Nat → List Nat → List Int
  | _, [] => []
  | a, n :: t => ((a + n : Nat) : Int) :: scanI (a + n) t
theorem scanI_len (l : List Nat) : ∀ a, (scanI a l).length = l.length := by
  induction l with
  | nil => intro a; rfl
  | cons n l ih => intro a; simp [scanI, ih]
theorem rd_succ (x : Int) (xs : List Int) (n : Nat) : rd (x :: xs) (((n + 1 : Nat)) : Int) = rd xs (n : Int) := by
  unfold rd
  rw [show (((n + 1 : Nat) : Int)).toNat = n + 1 by omega, Int.toNat_natCast]
  rfl
theorem rd_last (l : List Nat) : ∀ a : Nat, rd ((a : Int) :: scanI a l) (l.length : Int) = ((a + l.sum : Nat) : Int) := by
  induction l with
  | nil => intro a; simp [rd, scanI]
  | cons n l ih =>
    intro a
    rw [List.length_cons, rd_succ, scanI, ih (a + n)]
    simp
    omega

theorem drop_ext (s : ByteArray) (i : Nat) : (s.extract i s.size).data.toList = s.data.toList.drop i := by
  rw [ext_list, List.take_of_length_le (by rw [size_list]; exact Nat.le_refl _)]

/-! ### The program's loop -/
theorem readLog_l (s : ByteArray) (hs : s.size ≤ 1048576) (f : Nat) : ∀ (out : List S27) (ends : List Int) (p : Nat), out.length + f = 60 → ends.length ≤ 61 → out.length + 1 = ends.length → p ≤ s.size →
    Ev (fun k => impl_readLog.l0 k s out ends (p : Int)) (out ++ (runL f out.length (s.data.toList.drop p)).1, ends ++ scanI p (runL f out.length (s.data.toList.drop p)).2) := by
  induction f with
  | zero =>
    intro out ends p ho he hoe hp
    obtain ⟨c, r, z, ok, hE, h1, _⟩ := readRecord_ev (s.extract p s.size) (out.length : Int) (by rw [ByteArray.size_extract]; omega) (by omega)
    have hok : ok = false := by
      cases ok with
      | false => rfl
      | true => have := (h1 rfl).1.1; omega
    subst hok
    refine Ev.step (fun k => by rw [impl_readLog.l0]) ?_
    refine Ev.yes (by omega) (Ev.yes (by omega) (Ev.bind (by simpa using hE) (Ev.no (by simp) (Ev.const ?_))))
    simp [runL, scanI]
  | succ f ih =>
    intro out ends p ho he hoe hp
    obtain ⟨c, r, z, ok, hE, h1, h2⟩ := readRecord_ev (s.extract p s.size) (out.length : Int) (by rw [ByteArray.size_extract]; omega) (by omega)
    rw [drop_ext] at h1 h2
    refine Ev.step (fun k => by rw [impl_readLog.l0]) ?_
    refine Ev.yes (by omega) (Ev.yes (by omega) (Ev.bind (by simpa using hE) ?_))
    cases ok with
    | false =>
      refine Ev.no (by simp) (Ev.const ?_)
      have : recAt out.length (s.data.toList.drop p) = none := recAt_none fun c' r' hx => by have := h2 c' r' hx; simp at this
      simp [runL, this, scanI]
    | true =>
      obtain ⟨hr, hz⟩ := h1 rfl
      have hre := recAt_some hr
      have hl := rec_len hre
      have hL : lineLen out.length ⟨c, r⟩ = (lineB (out.length : Int) c r).size := rfl
      rw [List.length_drop, size_list] at hl
      refine Ev.yes rfl (Ev.yes (by omega) (Ev.yes (by omega) ?_))
      subst hz
      show Ev (fun k => impl_readLog.l0 k s (out ++ [(⟨c, r⟩ : S27)]) (ends ++ [wrap64 ((p : Int) + ((lineB (out.length : Int) c r).size : Int))]) (wrap64 ((p : Int) + ((lineB (out.length : Int) c r).size : Int)))) _
      rw [wrap_in (n := (p : Int) + ((lineB (out.length : Int) c r).size : Int)) (by omega) (by omega), show (p : Int) + ((lineB (out.length : Int) c r).size : Int) = ((p + lineLen out.length ⟨c, r⟩ : Nat) : Int) by rw [hL]; omega]
      refine Ev.to (ih _ _ (p + lineLen out.length ⟨c, r⟩) (by simp; omega) (by simp; omega) (by simp; omega) (by omega)) ?_
      simp only [List.length_append, List.length_cons, List.length_nil, Nat.zero_add]
      rw [runL, hre]
      simp only [List.drop_drop, scanI, List.append_assoc, List.singleton_append]
theorem readLog_ev (s : ByteArray) (hs : s.size ≤ 1048576) : Ev (fun k => impl_readLog.f k s) ((runL 60 0 s.data.toList).1, 0 :: scanI 0 (runL 60 0 s.data.toList).2) := by
  have := readLog_l s hs 60 [] [0] 0 rfl (by simp) rfl (by omega)
  simpa [impl_readLog.f] using this

/-! ### The reference's loop -/
theorem open_l (s : ByteArray) (hs : s.size ≤ 1048576) (f : Nat) : ∀ (out : List S27) (p : Nat), out.length + f = 60 → p ≤ s.size →
    Ev (fun k => spec_l12Open.l0 k s out (p : Int)) (out ++ (runL f out.length (s.data.toList.drop p)).1, ((p + (runL f out.length (s.data.toList.drop p)).2.sum : Nat) : Int)) := by
  induction f with
  | zero =>
    intro out p ho hp
    refine Ev.step (fun k => by rw [spec_l12Open.l0]) ?_
    have hE : Ev (fun k => spec_l12Open.j1 k s out (p : Int) false) (out, (p : Int)) := by
      refine Ev.step (fun k => by rw [spec_l12Open.j1]) ?_
      exact Ev.no (by simp) (Ev.const rfl)
    have hd : decide ((out.length : Int) < 60) = false := by simp; omega
    rw [hd]
    simpa [runL] using Ev.ite (c := (p : Int) < (s.size : Int)) (fun _ => hE) (fun _ => hE)
  | succ f ih =>
    intro out p ho hp
    refine Ev.step (fun k => by rw [spec_l12Open.l0]) ?_
    by_cases hlt : p < s.size
    · refine Ev.yes (by omega) ?_
      have hd : decide ((out.length : Int) < 60) = true := by simp; omega
      rw [hd]
      refine Ev.step (fun k => by rw [spec_l12Open.j1]) ?_
      obtain ⟨a, t, e1, la, na, alt⟩ := split_first (s.extract p s.size) 10 (by decide)
      have hxs : (s.extract p s.size).size = s.size - p := by rw [ByteArray.size_extract]; omega
      have S1 := split_ev (s.extract p s.size) 10 (by omega)
      rw [e1] at S1
      have has : (BA a).size = a.length := BA_size a
      obtain ⟨c, r, ok, hE, h1, h2⟩ := decode_ev (BA a) (out.length : Int) (by omega) (by omega) (by omega)
      refine Ev.yes rfl (Ev.yes (by omega) (Ev.yes (by omega) (Ev.bind (by simpa using S1) (Ev.yes (by simp) ?_))))
      have hh : rdOf ByteArray.empty (BA a :: List.map BA t) 0 = BA a := rfl
      simp only [List.map_cons] at *
      rw [hh]
      refine Ev.bind hE ?_
      rw [drop_ext] at alt
      rcases alt with ⟨ht, ha, hno⟩ | ⟨b, hb, ht⟩
      · subst ht
        refine Ev.yes (by simp) (Ev.const ?_)
        have : recAt out.length (s.data.toList.drop p) = none := recAt_none fun c' r' hx => by
          obtain ⟨_, _, rest, e⟩ := hx
          rw [e, hasL_append] at hno
          simp [hasL] at hno
        simp [runL, this]
      · have hne : t ≠ [] := by rw [ht]; exact splitL_ne _ _
        have hpos : 0 < t.length := List.length_pos_iff.2 hne
        refine Ev.no (by simp; omega) ?_
        have hlen : s.size - p = a.length + 1 + b.length := by
          have := congrArg List.length hb
          rw [List.length_drop, size_list] at this
          simp at this
          omega
        cases ok with
        | false =>
          refine Ev.no (by simp) (Ev.const ?_)
          have : recAt out.length (s.data.toList.drop p) = none := recAt_none fun c' r' hx => by
            obtain ⟨_, hv, rest, e⟩ := hx
            obtain ⟨ea, _⟩ := first_unique (m := 10) rfl na (stem_no (out.length : Int) c' r' (by omega) hv) (hb.symm.trans e)
            have := (h2 c' r' hv (ba_ext (by rw [BA_list, ea]))).1
            simp at this
          simp [runL, this]
        | true =>
          obtain ⟨hv, hs1⟩ := h1 rfl
          have hr : IsRec (out.length : Int) (s.data.toList.drop p) c r := ⟨by omega, hv, b, by rw [hb, ← hs1, BA_list]; rfl⟩
          have hre := recAt_some hr
          have hL : lineLen out.length ⟨c, r⟩ = a.length + 1 := by rw [lineLen_eq, size_list, ← hs1, has]
          refine Ev.yes rfl (Ev.yes (by omega) ?_)
          rw [has]
          rw [wrap_in (n := (p : Int) + (a.length : Int)) (by omega) (by omega), wrap_in (n := (p : Int) + (a.length : Int) + 1) (by omega) (by omega), show (p : Int) + (a.length : Int) + 1 = ((p + lineLen out.length ⟨c, r⟩ : Nat) : Int) by rw [hL]; omega]
          refine Ev.to (ih (out ++ [⟨c, r⟩]) (p + lineLen out.length ⟨c, r⟩) (by simp; omega) (by omega)) ?_
          simp only [List.length_append, List.length_cons, List.length_nil, Nat.zero_add]
          rw [runL, hre]
          simp only [List.drop_drop, List.append_assoc, List.singleton_append, List.sum_cons]
          rw [Nat.add_assoc]
    · refine Ev.no (by omega) ?_
      have hE : Ev (fun k => spec_l12Open.j1 k s out (p : Int) false) (out, (p : Int)) := by
        refine Ev.step (fun k => by rw [spec_l12Open.j1]) ?_
        exact Ev.no (by simp) (Ev.const rfl)
      have hnil : s.data.toList.drop p = [] := List.drop_of_length_le (by rw [size_list]; omega)
      have : recAt out.length ([] : List UInt8) = none := recAt_none fun c' r' hx => by
        obtain ⟨_, _, rest, e⟩ := hx
        simp at e
      refine Ev.to hE ?_
      simp [runL, hnil, this]
theorem open_ev (s : ByteArray) (hs : s.size ≤ 1048576) : Ev (fun k => spec_l12Open.f k s) ((runL 60 0 s.data.toList).1, (((runL 60 0 s.data.toList).2.sum : Nat) : Int)) := by
  have := open_l s hs 60 [] 0 rfl (by omega)
  simpa [spec_l12Open.f] using this

/-! ### RecoverLog -/
noncomputable def recoverB (s : ByteArray) : ByteArray × ByteArray × Int × Int × Bool :=
  if s.size > 30000 then (⟨#[]⟩, ⟨#[]⟩, 0, 0, false) else (s.extract 0 (runL 60 0 s.data.toList).2.sum, ⟨#[]⟩, ((runL 60 0 s.data.toList).1.length : Int), (((runL 60 0 s.data.toList).2.sum : Nat) : Int), true)
theorem spec_recover_ev (s : ByteArray) (hs : s.size ≤ 1048576) : Ev (fun k => spec_RecoverLog.f k s) (recoverB s) := by
  unfold spec_RecoverLog.f recoverB
  have := runL_sum 60 0 s.data.toList
  rw [size_list] at this
  by_cases h : s.size > 30000
  · rw [if_pos h]
    exact Ev.yes (by omega) (Ev.const rfl)
  · rw [if_neg h]
    refine Ev.no (by omega) (Ev.bind (open_ev s hs) (Ev.yes (by omega) (Ev.yes (by omega) (Ev.const ?_))))
    simp
theorem impl_recover_ev (s : ByteArray) (hs : s.size ≤ 1048576) : Ev (fun k => impl_RecoverLog.f k s) (recoverB s) := by
  unfold impl_RecoverLog.f recoverB
  have := runL_sum 60 0 s.data.toList
  rw [size_list] at this
  by_cases h : s.size > 30000
  · rw [if_pos h]
    exact Ev.yes (by omega) (Ev.const rfl)
  · rw [if_neg h]
    have hl := runL_len 60 0 s.data.toList
    have hr := rd_last (runL 60 0 s.data.toList).2 0
    rw [← hl] at hr
    have hr' : rd (0 :: scanI 0 (runL 60 0 s.data.toList).2) ((runL 60 0 s.data.toList).1.length : Int) = ((runL 60 0 s.data.toList).2.sum : Int) := by simpa using hr
    refine Ev.no (by omega) (Ev.bind (readLog_ev s hs) (Ev.yes (by omega) (Ev.yes (by simp [scanI_len]; omega) ?_)))
    rw [hr']
    refine Ev.yes (by omega) (Ev.yes (by omega) (Ev.const ?_))
    simp
theorem eqLog_self (a b : ByteArray) (n : Int) : laws_eqLog.f a b n a b n = some true := by unfold laws_eqLog.f; simp
/-- FnExactRecoverLog. -/
theorem FnExactRecoverLog (s : ByteArray) (_hs : Big s) : ∃ k, laws_FnExactRecoverLog.f k s = some true := by
  refine Ev.rounds ?_
  unfold laws_FnExactRecoverLog.f
  refine Ev.ite (fun _ => Ev.const rfl) fun h => ?_
  exact Ev.bind (spec_recover_ev s (by omega)) (Ev.bind (impl_recover_ev s (by omega)) (Ev.bind0 (eqLog_self _ _ _) (Ev.yes rfl (Ev.yes rfl (Ev.no (by simp) (Ev.const rfl))))))
#print axioms FnExactRecoverLog
end Go.Proofs.YtonfhfcpnoehjaaDoor.Pure
