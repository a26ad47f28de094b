/- Cutting and splitting texts, and reading one record of a log: what the program and the reference answer; conditions: texts below 2^47 bytes, as each theorem states. -/
import Derived.Test.YtonfhfcpnoehjaaDoorPureB
namespace Go.Proofs.YtonfhfcpnoehjaaDoor.Pure
open Go.RowKit Go.Proofs.YtonfhfcpnoehjaaDoorW.PrintWords Go.Proofs.YtonfhfcpnoehjaaDoorW.PrintLast Go.Proofs.YtonfhfcpnoehjaaDoor.Giv Go.Proofs.YtonfhfcpnoehjaaDoor.L Go.Proofs.YtonfhfcpnoehjaaDoor.Plain

/-- A text out of its bytes. -/
def BA (l : List UInt8) : ByteArray := ⟨l.toArray⟩
theorem BA_list (l : List UInt8) : (BA l).data.toList = l := by simp [BA]
theorem BA_size (l : List UInt8) : (BA l).size = l.length := by rw [← size_list, BA_list]
theorem BA_eta (s : ByteArray) : BA s.data.toList = s := ba_ext (BA_list _)
theorem ext_list (s : ByteArray) (i j : Nat) : (s.extract i j).data.toList = (s.data.toList.take j).drop i := by
  rw [ByteArray.data_extract]
  simp [List.drop_take]
theorem ext_BA (s : ByteArray) (i j : Nat) : s.extract i j = BA ((s.data.toList.take j).drop i) := ba_ext (by rw [ext_list, BA_list])

/-! ### Split at a byte -/
def pre (a : List UInt8) : List (List UInt8) → List (List UInt8)
  | [] => [a]
  | h :: t => (a ++ h) :: t
def splitL (m : Nat) : List UInt8 → List (List UInt8)
  | [] => [[]]
  | c :: l => if c.toNat = m then [] :: splitL m l else pre [c] (splitL m l)
theorem splitL_ne (m : Nat) (l : List UInt8) : splitL m l ≠ [] := by
  cases l with
  | nil => simp [splitL]
  | cons c l =>
    simp only [splitL]
    split
    · simp
    · unfold pre; split <;> simp
theorem pre_pre (a b : List UInt8) (l : List (List UInt8)) (h : l ≠ []) : pre a (pre b l) = pre (a ++ b) l := by
  cases l with
  | nil => exact absurd rfl h
  | cons h t => simp [pre]
theorem pre_nil (l : List (List UInt8)) (h : l ≠ []) : pre [] l = l := by
  cases l with
  | nil => exact absurd rfl h
  | cons h t => simp [pre]
theorem splitL_len (m : Nat) (l : List UInt8) : (splitL m l).length ≤ l.length + 1 := by
  induction l with
  | nil => simp [splitL]
  | cons c l ih =>
    simp only [splitL]
    split
    · simp; omega
    · have : (pre [c] (splitL m l)).length = (splitL m l).length := by
        have := splitL_ne m l
        cases h : splitL m l with
        | nil => exact absurd h this
        | cons a b => simp [pre]
      rw [this]
      simp
      omega
theorem splitL_none {m : Nat} {l : List UInt8} (h : hasL l m = false) : splitL m l = [l] := by
  induction l with
  | nil => rfl
  | cons c l ih =>
    unfold hasL at h ih
    simp at h
    simp only [splitL]
    rw [if_neg h.1, ih (by simpa using h.2)]
    rfl
theorem splitL_some {m : Nat} {a b : List UInt8} {x : UInt8} (hx : x.toNat = m) (h : hasL a m = false) : splitL m (a ++ x :: b) = a :: splitL m b := by
  induction a with
  | nil => simp [splitL, hx]
  | cons c l ih =>
    unfold hasL at h ih
    simp at h
    simp only [List.cons_append, splitL]
    rw [if_neg h.1, ih (by simpa using h.2)]
    rfl
/-- A list is without a byte, or parts at its first place. -/
theorem first_of (m : Nat) (hm : m < 256) (l : List UInt8) : hasL l m = false ∨ ∃ a b, l = a ++ UInt8.ofNat m :: b ∧ hasL a m = false := by
  induction l with
  | nil => exact .inl rfl
  | cons c l ih =>
    by_cases hc : c.toNat = m
    · exact .inr ⟨[], l, by rw [(u8_eq hm).1 hc]; rfl, rfl⟩
    · rcases ih with h | ⟨a, b, rfl, h⟩
      · exact .inl (by unfold hasL at h ⊢; simp at h ⊢; exact ⟨hc, h⟩)
      · exact .inr ⟨c :: a, b, rfl, by unfold hasL at h ⊢; simp at h ⊢; exact ⟨hc, h⟩⟩
theorem first_unique {m : Nat} {a b a' b' : List UInt8} {x : UInt8} (hx : x.toNat = m) (h : hasL a m = false) (h' : hasL a' m = false) (e : a ++ x :: b = a' ++ x :: b') : a = a' ∧ b = b' := by
  induction a generalizing a' with
  | nil =>
    cases a' with
    | nil => simpa using e
    | cons c l => simp at e; unfold hasL at h'; simp [← e.1, hx] at h'
  | cons c l ih =>
    unfold hasL at h
    simp at h
    cases a' with
    | nil => simp at e; exact absurd (by rw [e.1]; exact hx) h.1
    | cons c' l' =>
      simp at e
      unfold hasL at h'
      simp at h'
      obtain ⟨r1, r2⟩ := ih (by unfold hasL; simpa using h.2) (a' := l') (by unfold hasL; simpa using h'.2) e.2
      exact ⟨by rw [e.1, r1], r2⟩

theorem split_l (s : ByteArray) (m : Nat) (hs : s.size ≤ 2097152) (d : Nat) : ∀ (n g : Nat) (out : List ByteArray), s.size - n = d → g ≤ n → n ≤ s.size → out.length ≤ n →
    Ev (fun k => spec_l1Split.l0 k s (m : Int) out (g : Int) (n : Int)) (out ++ (pre ((s.data.toList.take n).drop g) (splitL m (s.data.toList.drop n))).map BA) := by
  induction d with
  | zero =>
    intro n g out hd hg hn ho
    refine Ev.step (fun k => by rw [spec_l1Split.l0]) ?_
    refine Ev.no (by omega) (Ev.yes (by omega) (Ev.yes (by omega) (Ev.yes (by omega) (Ev.const ?_))))
    have hl := size_list s
    rw [List.drop_of_length_le (l := s.data.toList) (i := n) (by omega)]
    simp only [splitL, pre, List.map_cons, List.map_nil, List.append_nil]
    rw [ext_BA, Int.toNat_natCast, List.take_of_length_le (by omega), List.take_of_length_le (by omega)]
  | succ d ih =>
    intro n g out hd hg hn ho
    obtain ⟨c, hc, hb⟩ := bt_drop s n (by omega)
    have htk : s.data.toList.take (n + 1) = s.data.toList.take n ++ [c] := by
      have hl := size_list s
      rw [List.take_succ_eq_append_getElem (by omega)]
      rw [List.drop_eq_getElem_cons (by omega)] at hc
      injection hc with h1 _
      rw [h1]
    refine Ev.step (fun k => by rw [spec_l1Split.l0]) ?_
    refine Ev.yes (by omega) (Ev.yes (by omega) ?_)
    rw [hb, hc, wrap_in (n := (n : Int) + 1) (by omega) (by omega)]
    by_cases h1 : c.toNat = m
    · refine Ev.yes (by omega) (Ev.yes (by omega) (Ev.yes (by omega) (Ev.yes (by omega) (Ev.yes (by omega) ?_))))
      refine Ev.to (ih (n + 1) (n + 1) _ (by omega) (by omega) (by omega) (by simp; omega)) ?_
      rw [List.drop_of_length_le (l := s.data.toList.take (n + 1)) (by simp; omega), pre_nil _ (splitL_ne _ _), ext_BA, Int.toNat_natCast, Int.toNat_natCast]
      simp only [splitL, if_pos h1, pre, List.append_nil, List.map_cons, List.append_assoc, List.singleton_append]
    · refine Ev.no (by omega) ?_
      refine Ev.to (ih (n + 1) g out (by omega) (by omega) (by omega) (by omega)) ?_
      simp only [splitL, if_neg h1]
      rw [htk, pre_pre _ _ _ (splitL_ne _ _), List.drop_append_of_le_length (by have := size_list s; simp; omega)]
theorem split_ev (s : ByteArray) (m : Nat) (hs : s.size ≤ 2097152) : Ev (fun k => spec_l1Split.f k s (m : Int)) ((splitL m s.data.toList).map BA) := by
  have := split_l s m hs (s.size - 0) 0 0 [] rfl (by omega) (by omega) (by simp)
  simpa [spec_l1Split.f, pre_nil _ (splitL_ne _ _)] using this

/-! ### Cut at a byte -/
theorem index_none {l : List UInt8} {x : UInt8} (h : hasL l x.toNat = false) : Lib.indexByte l x = -1 := by
  have h1 := indexByte_has l x
  rw [h] at h1
  have h2 := Lib.indexByte_ge l x
  have h3 := of_decide_eq_false h1
  omega
theorem index_some {a b : List UInt8} {x : UInt8} (h : hasL a x.toNat = false) : Lib.indexByte (a ++ x :: b) x = a.length := by
  induction a with
  | nil => simp [Lib.indexByte]
  | cons c l ih =>
    unfold hasL at h ih
    simp at h
    have := ih (by simpa using h.2)
    simp only [List.cons_append, Lib.indexByte]
    rw [this, if_neg (by simp; exact fun e => h.1 (by rw [e])), if_neg (by simp)]
    simp
theorem cut_none (s : ByteArray) (x : UInt8) (h : hasL s.data.toList x.toNat = false) : strings_Cut.f s ⟨#[x]⟩ = some (s, ⟨#[]⟩, false) := by
  unfold strings_Cut.f stringslite_Cut.f stringslite_Index.f
  rw [if_pos (show (⟨#[x]⟩ : ByteArray).size = 1 from rfl)]
  simp only [Option.bind_some]
  rw [show ((⟨#[x]⟩ : ByteArray).data.getD 0 0) = x from rfl, index_none h, if_neg (by decide)]
  rfl
theorem cut_some (s : ByteArray) (x : UInt8) (a b : List UInt8) (hs : Big s) (e : s.data.toList = a ++ x :: b) (h : hasL a x.toNat = false) : strings_Cut.f s ⟨#[x]⟩ = some (BA a, BA b, true) := by
  have hz : s.size = a.length + 1 + b.length := by rw [← size_list, e]; simp; omega
  unfold Big at hs
  unfold strings_Cut.f stringslite_Cut.f stringslite_Index.f
  rw [if_pos (show (⟨#[x]⟩ : ByteArray).size = 1 from rfl)]
  simp only [Option.bind_some]
  rw [show ((⟨#[x]⟩ : ByteArray).data.getD 0 0) = x from rfl, e, index_some h, if_pos (by omega), if_pos (by omega), if_pos (by omega), one_size, wrap_in (by omega) (by omega), if_pos (by omega), if_pos (by omega)]
  simp only [Option.bind_some, Option.some.injEq, Prod.mk.injEq, and_true]
  constructor
  · apply ba_ext
    rw [ext_list, BA_list, e, Int.toNat_natCast]
    simp
  · apply ba_ext
    rw [ext_list, BA_list, e, show ((a.length : Int) + ((1 : Nat) : Int)).toNat = a.length + 1 by omega, hz]
    rw [List.take_of_length_le (by simp; omega)]
    simp
end Go.Proofs.YtonfhfcpnoehjaaDoor.Pure
