/- Which descriptions are valid, both ways. -/
import Derived.Test.YtclfgfpebplncaaGreatDg
set_option linter.unusedVariables false
set_option linter.unusedSectionVars false
set_option linter.unusedSimpArgs false
set_option maxRecDepth 10000
set_option maxHeartbeats 4000000
namespace Go.Ev
section
variable {P0 : Program} {E : Env} {F : T CFn} {K : T (List AV × AV)} (L : Lg P0 E F K) (X : Fx F K)
include L X
omit L X in
theorem vcases (s : Sp) : (s.seq < 1) ∨
    (1 ≤ s.seq ∧ s.len < 1) ∨
    (1 ≤ s.seq ∧ 65535 < s.len) ∨
    (1 ≤ s.seq ∧ 1 ≤ s.len ∧ s.len ≤ 65535 ∧ s.idx < 0) ∨
    (1 ≤ s.seq ∧ 1 ≤ s.len ∧ s.len ≤ 65535 ∧ 0 ≤ s.idx ∧ s.len ≤ s.idx) ∨
    (1 ≤ s.seq ∧ 1 ≤ s.len ∧ s.len ≤ 65535 ∧ 0 ≤ s.idx ∧ s.idx < s.len ∧ s.kind = 1 ∧ s.sec < 0) ∨
    (1 ≤ s.seq ∧ 1 ≤ s.len ∧ s.len ≤ 65535 ∧ 0 ≤ s.idx ∧ s.idx < s.len ∧ s.kind = 1 ∧ 4294967294 < s.sec) ∨
    (1 ≤ s.seq ∧ 1 ≤ s.len ∧ s.len ≤ 65535 ∧ 0 ≤ s.idx ∧ s.idx < s.len ∧ s.kind = 1 ∧ 0 ≤ s.sec ∧ s.sec ≤ 4294967294 ∧ s.prev ≠ 0) ∨
    (1 ≤ s.seq ∧ 1 ≤ s.len ∧ s.len ≤ 65535 ∧ 0 ≤ s.idx ∧ s.idx < s.len ∧ s.kind = 1 ∧ 0 ≤ s.sec ∧ s.sec ≤ 4294967294 ∧ s.prev = 0 ∧ s.len ≠ 1) ∨
    (1 ≤ s.seq ∧ 1 ≤ s.len ∧ s.len ≤ 65535 ∧ 0 ≤ s.idx ∧ s.idx < s.len ∧ s.kind = 1 ∧ 0 ≤ s.sec ∧ s.sec ≤ 4294967294 ∧ s.prev = 0 ∧ s.len = 1) ∨
    (1 ≤ s.seq ∧ 1 ≤ s.len ∧ s.len ≤ 65535 ∧ 0 ≤ s.idx ∧ s.idx < s.len ∧ s.kind ≠ 1 ∧ s.kind ≠ 2 ∧ s.kind ≠ 3) ∨
    (1 ≤ s.seq ∧ 1 ≤ s.len ∧ s.len ≤ 65535 ∧ 0 ≤ s.idx ∧ s.idx < s.len ∧ s.kind = 2 ∧ s.sec ≠ 0) ∨
    (1 ≤ s.seq ∧ 1 ≤ s.len ∧ s.len ≤ 65535 ∧ 0 ≤ s.idx ∧ s.idx < s.len ∧ s.kind = 2 ∧ s.sec = 0 ∧ s.seq ≤ s.prev) ∨
    (1 ≤ s.seq ∧ 1 ≤ s.len ∧ s.len ≤ 65535 ∧ 0 ≤ s.idx ∧ s.idx < s.len ∧ s.kind = 2 ∧ s.sec = 0 ∧ s.prev < s.seq ∧ s.seq - s.prev ≤ s.idx.toNat) ∨
    (1 ≤ s.seq ∧ 1 ≤ s.len ∧ s.len ≤ 65535 ∧ 0 ≤ s.idx ∧ s.idx < s.len ∧ s.kind = 2 ∧ s.sec = 0 ∧ s.prev < s.seq ∧ s.idx.toNat < s.seq - s.prev) ∨
    (1 ≤ s.seq ∧ 1 ≤ s.len ∧ s.len ≤ 65535 ∧ 0 ≤ s.idx ∧ s.idx < s.len ∧ s.kind = 3 ∧ s.sec ≠ 0) ∨
    (1 ≤ s.seq ∧ 1 ≤ s.len ∧ s.len ≤ 65535 ∧ 0 ≤ s.idx ∧ s.idx < s.len ∧ s.kind = 3 ∧ s.sec = 0 ∧ s.seq ≤ s.prev) ∨
    (1 ≤ s.seq ∧ 1 ≤ s.len ∧ s.len ≤ 65535 ∧ 0 ≤ s.idx ∧ s.idx < s.len ∧ s.kind = 3 ∧ s.sec = 0 ∧ s.prev < s.seq ∧ s.seq - s.prev ≤ s.idx.toNat) ∨
    (1 ≤ s.seq ∧ 1 ≤ s.len ∧ s.len ≤ 65535 ∧ 0 ≤ s.idx ∧ s.idx < s.len ∧ s.kind = 3 ∧ s.sec = 0 ∧ s.prev < s.seq ∧ s.idx.toNat < s.seq - s.prev) := by
  by_cases h0 : s.seq < 1
  · exact .inl (by omega)
  by_cases h1 : s.len < 1
  · exact .inr (.inl ⟨by omega, by omega⟩)
  by_cases h2 : 65535 < s.len
  · exact .inr (.inr (.inl ⟨by omega, by omega⟩))
  by_cases h3 : s.idx < 0
  · exact .inr (.inr (.inr (.inl ⟨by omega, by omega, by omega, by omega⟩)))
  by_cases h4 : s.len ≤ s.idx
  · exact .inr (.inr (.inr (.inr (.inl ⟨by omega, by omega, by omega, by omega, by omega⟩))))
  by_cases hk : s.kind = 1
  · by_cases h5 : s.sec < 0
    · exact .inr (.inr (.inr (.inr (.inr (.inl ⟨by omega, by omega, by omega, by omega, by omega, by omega, by omega⟩)))))
    by_cases h6 : 4294967294 < s.sec
    · exact .inr (.inr (.inr (.inr (.inr (.inr (.inl ⟨by omega, by omega, by omega, by omega, by omega, by omega, by omega⟩))))))
    by_cases h7 : s.prev ≠ 0
    · exact .inr (.inr (.inr (.inr (.inr (.inr (.inr (.inl ⟨by omega, by omega, by omega, by omega, by omega, by omega, by omega, by omega, by omega⟩)))))))
    by_cases h8 : s.len ≠ 1
    · exact .inr (.inr (.inr (.inr (.inr (.inr (.inr (.inr (.inl ⟨by omega, by omega, by omega, by omega, by omega, by omega, by omega, by omega, by omega, by omega⟩))))))))
    exact .inr (.inr (.inr (.inr (.inr (.inr (.inr (.inr (.inr (.inl ⟨by omega, by omega, by omega, by omega, by omega, by omega, by omega, by omega, by omega, by omega⟩)))))))))
  by_cases hk2 : s.kind = 2
  · by_cases h11 : s.sec ≠ 0
    · exact .inr (.inr (.inr (.inr (.inr (.inr (.inr (.inr (.inr (.inr (.inr (.inl ⟨by omega, by omega, by omega, by omega, by omega, by omega, by omega⟩)))))))))))
    by_cases h12 : s.seq ≤ s.prev
    · exact .inr (.inr (.inr (.inr (.inr (.inr (.inr (.inr (.inr (.inr (.inr (.inr (.inl ⟨by omega, by omega, by omega, by omega, by omega, by omega, by omega, by omega⟩))))))))))))
    by_cases h13 : s.seq - s.prev ≤ s.idx.toNat
    · exact .inr (.inr (.inr (.inr (.inr (.inr (.inr (.inr (.inr (.inr (.inr (.inr (.inr (.inl ⟨by omega, by omega, by omega, by omega, by omega, by omega, by omega, by omega, by omega⟩)))))))))))))
    exact .inr (.inr (.inr (.inr (.inr (.inr (.inr (.inr (.inr (.inr (.inr (.inr (.inr (.inr (.inl ⟨by omega, by omega, by omega, by omega, by omega, by omega, by omega, by omega, by omega⟩))))))))))))))
  by_cases hk3 : s.kind = 3
  · by_cases h15 : s.sec ≠ 0
    · exact .inr (.inr (.inr (.inr (.inr (.inr (.inr (.inr (.inr (.inr (.inr (.inr (.inr (.inr (.inr (.inl ⟨by omega, by omega, by omega, by omega, by omega, by omega, by omega⟩)))))))))))))))
    by_cases h16 : s.seq ≤ s.prev
    · exact .inr (.inr (.inr (.inr (.inr (.inr (.inr (.inr (.inr (.inr (.inr (.inr (.inr (.inr (.inr (.inr (.inl ⟨by omega, by omega, by omega, by omega, by omega, by omega, by omega, by omega⟩))))))))))))))))
    by_cases h17 : s.seq - s.prev ≤ s.idx.toNat
    · exact .inr (.inr (.inr (.inr (.inr (.inr (.inr (.inr (.inr (.inr (.inr (.inr (.inr (.inr (.inr (.inr (.inr (.inl ⟨by omega, by omega, by omega, by omega, by omega, by omega, by omega, by omega, by omega⟩)))))))))))))))))
    exact .inr (.inr (.inr (.inr (.inr (.inr (.inr (.inr (.inr (.inr (.inr (.inr (.inr (.inr (.inr (.inr (.inr (.inr (⟨by omega, by omega, by omega, by omega, by omega, by omega, by omega, by omega, by omega⟩))))))))))))))))))
  exact .inr (.inr (.inr (.inr (.inr (.inr (.inr (.inr (.inr (.inr (.inl ⟨by omega, by omega, by omega, by omega, by omega, by omega, by omega, by omega⟩))))))))))
theorem rvalid_ct {h : H} {s : Sp} (ok : s.Ok) : Ct P0 E F K 124 [.agg (spC s)] h fun v h' => v = .bool (decide s.Valid) ∧ K0 h h' := by
  have hsq := ok.seq
  have hpv := ok.prev
  have hu : 0 ≤ s.idx → u64 s.idx = s.idx.toNat ∨ 18446744073709551616 ≤ s.idx := by unfold u64; omega
  rcases vcases s with hc | hc | hc | hc | hc | hc | hc | hc | hc | hc | hc | hc | hc | hc | hc | hc | hc | hc | hc
  all_goals
    refine ct_in1 L X.f124 X.k124 rfl rfl fun Q x cs G => ?_
    refine wk ?_
    (try ((apply st1 L rfl; exact w_conv64 rfl; rfl); refine wk ?_; (apply st1 L rfl; exact w_subU rfl rfl rfl (by omega) (by simp only [pw]; omega); rfl); refine wk ?_))
    (first
    | (refine ret X.f124 ?_; exact ⟨by rw [show decide s.Valid = false from decide_eq_false (by unfold Sp.Valid; omega)]; rfl, kps⟩)
    | (refine ret X.f124 ?_; exact ⟨by rw [show decide s.Valid = true from decide_eq_true (by unfold Sp.Valid; omega)]; rfl, kps⟩))
theorem valid5_ct {h : H} {s : Sp} (ok : s.Ok) : Ct P0 E F K 160 [.agg (spC s)] h fun v h' => v = .bool (decide s.Valid) ∧ K0 h h' := by
  have hsq := ok.seq
  have hpv := ok.prev
  have hu : 0 ≤ s.idx → u64 s.idx = s.idx.toNat ∨ 18446744073709551616 ≤ s.idx := by unfold u64; omega
  rcases vcases s with hc | hc | hc | hc | hc | hc | hc | hc | hc | hc | hc | hc | hc | hc | hc | hc | hc | hc | hc
  all_goals
    refine ct_in1 L X.f160 X.k160 rfl rfl fun Q x cs G => ?_
    refine wk ?_
    (try ((apply st1 L rfl; exact w_conv64 rfl; rfl); refine wk ?_; (apply st1 L rfl; exact w_subU rfl rfl rfl (by omega) (by simp only [pw]; omega); rfl); refine wk ?_))
    (first
    | (refine ret X.f160 ?_; exact ⟨by rw [show decide s.Valid = false from decide_eq_false (by unfold Sp.Valid; omega)]; rfl, kps⟩)
    | (refine ret X.f160 ?_; exact ⟨by rw [show decide s.Valid = true from decide_eq_true (by unfold Sp.Valid; omega)]; rfl, kps⟩))

end
end Go.Ev

