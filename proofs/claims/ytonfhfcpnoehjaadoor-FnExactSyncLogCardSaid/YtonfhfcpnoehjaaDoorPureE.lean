/- Reading a whole log: the program's readLog and the reference's l12Open tell the same records and the same end; the statements FnExactRecoverLog and FnExactIsValidLog over texts alone; conditions: texts below 2^47 bytes. -/
import Derived.Test.YtonfhfcpnoehjaaDoorPureD
import Derived.Test.YtonfhfcpnoehjaaDoorL7
namespace Go.Proofs.YtonfhfcpnoehjaaDoor.Pure
open Go.RowKit Go.Proofs.YtonfhfcpnoehjaaDoorW.PrintWords Go.Proofs.YtonfhfcpnoehjaaDoorW.PrintLast Go.Proofs.YtonfhfcpnoehjaaDoor.Giv Go.Proofs.YtonfhfcpnoehjaaDoor.L Go.Proofs.YtonfhfcpnoehjaaDoor.Plain

/-! ### The reference's line -/
theorem rd_head (a : List UInt8) (l : List (List UInt8)) : rdOf ByteArray.empty (List.map BA (a :: l)) 0 = BA a := rfl
theorem split_first (s : ByteArray) (m : Nat) (hm : m < 256) : ∃ a t, splitL m s.data.toList = a :: t ∧ a.length ≤ s.size ∧ hasL a m = false ∧ ((t = [] ∧ a = s.data.toList ∧ hasL s.data.toList m = false) ∨ ∃ b, s.data.toList = a ++ UInt8.ofNat m :: b ∧ t = splitL m b) := by
  rcases first_of m hm s.data.toList with h | ⟨a, b, e, h⟩
  · exact ⟨_, _, splitL_none h, by rw [size_list]; exact Nat.le_refl _, h, .inl ⟨rfl, rfl, h⟩⟩
  · refine ⟨a, splitL m b, ?_, ?_, h, .inr ⟨b, e, rfl⟩⟩
    · rw [e]; exact splitL_some (by first | (simp; done) | (simp; omega)) h
    · rw [← size_list, e]; simp
theorem decode_ev (s : ByteArray) (n : Int) (hs : s.size ≤ 2097152) (h0 : 0 ≤ n) (hn : n ≤ 1000) : ∃ c r ok, Ev (fun k => spec_l12Decode.f k s n) (c, r, ok) ∧
    (ok = true → validR c r = true ∧ s = stemB n c r) ∧ (∀ c' r', validR c' r' = true → s = stemB n c' r' → ok = true ∧ c = c' ∧ r = r') := by
  have hl := numB_len n (by omega) (by omega)
  have hA : (numB n ++ (⟨#[32]⟩ : ByteArray)).size = (numB n).size + 1 := by rw [ByteArray.size_append]; rfl
  unfold spec_l12Decode.f
  obtain ⟨a, t, e1, la, na, alt⟩ := split_first s 35 (by decide)
  have S1 := split_ev s 35 hs
  rw [e1] at S1
  -- a stem's first part is its body
  have hbody : ∀ c' r', validR c' r' = true → s = stemB n c' r' → BA a = bodyB n c' r' := by
    rintro c' r' hv rfl
    have hl := stem_list n c' r'
    rcases alt with ⟨_, _, hh⟩ | ⟨b, hb, _⟩
    · rw [hl, hasL_append] at hh
      simp [hasL] at hh
    · obtain ⟨ee, _⟩ := first_unique (m := 35) rfl na (body_low n c' r' h0 hv (.inr rfl)) (hb.symm.trans hl)
      exact ba_ext (by rw [BA_list, ee])
  have hsz : (BA a).size = a.length := BA_size a
  by_cases h1 : a.length < (numB n).size + 1
  · refine ⟨⟨#[]⟩, ⟨#[]⟩, false, Ev.bind0 (num_ev n (by omega) (by omega)) (Ev.yes (by omega) (Ev.bind S1 (Ev.yes (by simp) ?_))), by simp, ?_⟩
    · rw [rd_head]
      refine Ev.yes (by rw [hA, hsz]; omega) ?_
      refine Ev.step (fun k => by rw [spec_l12Decode.j0]) ?_
      exact Ev.yes rfl (Ev.const rfl)
    · intro c' r' hv e
      have := hbody c' r' hv e
      have := bodyB_size n c' r'
      have : (BA a).size = (bodyB n c' r').size := by rw [hbody c' r' hv e]
      omega
  · -- the head
    have pre_ev : ∀ {res}, Ev (fun k => spec_l12Decode.j0 k s n (numB n ++ (⟨#[32]⟩ : ByteArray)) (BA a) (((BA a).extract 0 (((numB n ++ (⟨#[32]⟩ : ByteArray)).size : Int) : Int).toNat).toList != (numB n ++ (⟨#[32]⟩ : ByteArray)).toList)) res → Ev (fun k => spec_l12Decode.f k s n) res := by
      intro res h
      unfold spec_l12Decode.f
      refine Ev.bind0 (num_ev n (by omega) (by omega)) (Ev.yes (by omega) (Ev.bind S1 (Ev.yes (by simp) ?_)))
      rw [rd_head]
      exact Ev.no (by rw [hA, hsz]; omega) (Ev.yes (by omega) (Ev.yes (by rw [hA, hsz]; omega) h))
    have hx : ((BA a).extract 0 (((numB n ++ (⟨#[32]⟩ : ByteArray)).size : Int) : Int).toNat).data.toList = a.take ((numB n).size + 1) := by
      rw [ext_list, BA_list, hA, Int.toNat_natCast]; simp
    by_cases h2 : a.take ((numB n).size + 1) = (numB n).data.toList ++ [32]
    · have hp : (((BA a).extract 0 (((numB n ++ (⟨#[32]⟩ : ByteArray)).size : Int) : Int).toNat).toList != (numB n ++ (⟨#[32]⟩ : ByteArray)).toList) = false := by
        rw [bne_eq_false_iff_eq, toList_eq, toList_eq, hx, h2, data_append]
      rw [hp] at pre_ev
      obtain ⟨rest, hrest⟩ : ∃ rest, a = ((numB n).data.toList ++ [32]) ++ rest := ⟨a.drop ((numB n).size + 1), by rw [← h2]; exact (List.take_append_drop _ _).symm⟩
      have hlen : a.length = (numB n).size + 1 + rest.length := by rw [hrest]; simp; omega
      have hR : (BA a).extract (((numB n ++ (⟨#[32]⟩ : ByteArray)).size : Int) : Int).toNat (BA a).size = BA rest := by
        apply ba_ext
        rw [ext_list, BA_list, BA_list, hA, Int.toNat_natCast, hsz, List.take_of_length_le (Nat.le_refl _), hrest]
        rw [List.drop_append_of_le_length (by simp)]
        have : (numB n).size + 1 = ((numB n).data.toList ++ [32]).length := by simp
        rw [this, List.drop_length]
        rfl
      have hbody2 : ∀ c' r', validR c' r' = true → s = stemB n c' r' → rest = c'.data.toList ++ 64 :: r'.data.toList := by
        intro c' r' hv e
        have := hbody c' r' hv e
        have h3 : (BA a).data.toList = (bodyB n c' r').data.toList := by rw [this]
        rw [BA_list, hrest, body_list] at h3
        exact List.append_cancel_left h3
      obtain ⟨u, t2, e2, lu, nu, alt2⟩ := split_first (BA rest) 64 (by decide)
      have hrs : (BA rest).size = rest.length := BA_size rest
      have S2 := split_ev (BA rest) 64 (by omega)
      rw [e2] at S2
      rw [BA_list] at alt2
      have hus : (BA u).size = u.length := BA_size u
      rcases alt2 with ⟨_, hu, hno⟩ | ⟨b, hb, _⟩
      · refine ⟨⟨#[]⟩, ⟨#[]⟩, false, pre_ev ?_, by simp, ?_⟩
        · refine Ev.step (fun k => by rw [spec_l12Decode.j0]) ?_
          rw [hR]
          refine Ev.no (by simp) (Ev.yes (by omega) (Ev.yes (by rw [hA, hsz]; omega) (Ev.bind S2 (Ev.yes (by simp) ?_))))
          rw [rd_head]
          exact Ev.yes (by rw [hu]) (Ev.const rfl)
        · intro c' r' hv e
          have := hbody2 c' r' hv e
          rw [this, hasL_append] at hno
          simp [hasL] at hno
      · have hbl : rest.length = u.length + 1 + b.length := by rw [hb]; simp; omega
        have hR2 : (BA rest).extract ((wrap64 (((BA u).size : Int) + 1)) : Int).toNat (BA rest).size = BA b := by
          apply ba_ext
          rw [ext_list, BA_list, BA_list, hrs, hus, wrap_in (by omega) (by omega), show (((u.length : Int)) + 1).toNat = u.length + 1 by omega, List.take_of_length_le (Nat.le_refl _), hb]
          simp
        have hbs : (BA b).size = b.length := BA_size b
        have post : ∀ {res}, (if validR (BA u) (BA b) = true then some (BA u, BA b, ((lineB n (BA u) (BA b)).toList == (s ++ (⟨#[10]⟩ : ByteArray)).toList)) else some (BA u, BA b, false)) = some res → Ev (fun k => spec_l12Decode.f k s n) res := by
          intro res hres
          refine pre_ev ?_
          refine Ev.step (fun k => by rw [spec_l12Decode.j0]) ?_
          rw [hR]
          refine Ev.no (by simp) (Ev.yes (by omega) (Ev.yes (by rw [hA, hsz]; omega) (Ev.bind S2 (Ev.yes (by simp) ?_))))
          rw [rd_head, hR2]
          refine Ev.no (by rw [hus, hrs]; omega) (Ev.yes (by rw [hus, wrap_in (by omega) (by omega)]; omega) (Ev.yes (by rw [hus, hrs, wrap_in (by omega) (by omega)]; omega) (Ev.bind (record_ev (BA u) (BA b) (by unfold Big; omega) (by unfold Big; omega)) ?_)))
          by_cases hv : validR (BA u) (BA b) = true
          · rw [if_pos hv] at hres
            exact Ev.yes hv (Ev.bind (line_ev n (BA u) (BA b) h0 (by omega) (by have := valid_size hv; omega) (by have := valid_size hv; omega)) (Ev.yes (by omega) (Ev.const hres)))
          · rw [if_neg hv] at hres
            exact Ev.no hv (Ev.const hres)
        have huq : ∀ c' r', validR c' r' = true → s = stemB n c' r' → BA u = c' ∧ BA b = r' := by
          intro c' r' hv e
          have h3 := hbody2 c' r' hv e
          obtain ⟨h4, h5⟩ := first_unique (m := 64) rfl nu (valid_parts hv).2.2.1 (hb.symm.trans h3)
          exact ⟨ba_ext (by rw [BA_list, h4]), ba_ext (by rw [BA_list, h5])⟩
        by_cases hv : validR (BA u) (BA b) = true
        · refine ⟨_, _, _, post (by rw [if_pos hv]), ?_, ?_⟩
          · intro hok
            exact ⟨hv, nl_eq.1 (by simpa using hok)⟩
          · intro c' r' hv' e
            obtain ⟨h4, h5⟩ := huq c' r' hv' e
            refine ⟨?_, h4, h5⟩
            have : s = stemB n (BA u) (BA b) := by rw [h4, h5]; exact e
            simpa using nl_eq.2 this
        · refine ⟨_, _, _, post (by rw [if_neg hv]), by simp, ?_⟩
          intro c' r' hv' e
          obtain ⟨h4, h5⟩ := huq c' r' hv' e
          exact absurd (by rw [h4, h5]; exact hv') hv
    · have hp : (((BA a).extract 0 (((numB n ++ (⟨#[32]⟩ : ByteArray)).size : Int) : Int).toNat).toList != (numB n ++ (⟨#[32]⟩ : ByteArray)).toList) = true := by
        rw [bne_iff_ne, toList_eq, toList_eq, hx, data_append]
        exact h2
      rw [hp] at pre_ev
      refine ⟨⟨#[]⟩, ⟨#[]⟩, false, pre_ev ?_, by simp, ?_⟩
      · refine Ev.step (fun k => by rw [spec_l12Decode.j0]) ?_
        exact Ev.yes rfl (Ev.const rfl)
      · intro c' r' hv e
        have := hbody c' r' hv e
        have h3 : (BA a).data.toList = (bodyB n c' r').data.toList := by rw [this]
        rw [BA_list, body_list] at h3
        refine absurd ?_ h2
        rw [h3]
        have : (numB n).size + 1 = ((numB n).data.toList ++ [32]).length := by simp
        rw [this, List.take_append_of_le_length (Nat.le_refl _), List.take_length]
end Go.Proofs.YtonfhfcpnoehjaaDoor.Pure
