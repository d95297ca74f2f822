/-
  What an operation makes, writes hangs on its operands and on the blocks that it says it has looked at alone.
-/
import Derived.Test.YtohhkgieggfpeaaL
set_option linter.unusedVariables false
namespace Go.Rf
open Go

section
variable {Γ : Ctx} {R : Type}

theorem places_congr {fs : List (Nat × TypeId)} {tm tm' : List (Nat × AV)} : ∀ {l : List (Nat × Operand)}, (∀ p ∈ l, opnd tm' p.2 = opnd tm p.2) → places Γ fs tm' l = places Γ fs tm l
  | [], _ => rfl
  | (i, x) :: r, h => by
    have h1 := h (i, x) (by simp)
    have h2 := places_congr (fs := fs) (l := r) fun p hp => h p (by simp [hp])
    simp only at h1
    simp only [places, h1, h2]
theorem elems_congr {sz : Nat} {tm tm' : List (Nat × AV)} : ∀ {l : List (Nat × Operand)}, (∀ p ∈ l, opnd tm' p.2 = opnd tm p.2) → elems sz tm' l = elems sz tm l
  | [], _ => rfl
  | (i, x) :: r, h => by
    have h1 := h (i, x) (by simp)
    have h2 := elems_congr (sz := sz) (l := r) fun p hp => h p (by simp [hp])
    simp only at h1
    simp only [elems, h1, h2]
theorem rdSl_congr {H H' : List Blk} {x : AV} (h : SameBlk (tgV x) H H') : rdSl H' x = rdSl H x := by
  unfold rdSl
  split
  · rename_i t off len sz
    simp only [h t (by simp [tgV, tgT, tg1, tg0])]
  · rename_i t off len sz
    simp only [h t (by simp [tgV, tgT, tg1, tg0])]
  · rfl

theorem evE_local {slot : Nat} {o : Op} {tm : List (Nat × AV)} {H : List Blk} {k : AV → List (Nat × Blk) → List Nat → Option R} {r : R} (h : evE Γ slot o tm H k = some r) :
    ∃ v ed rd, k v ed rd = some r ∧ ∀ (tm' : List (Nat × AV)) (H' : List Blk) (R' : Type) (k' : AV → List (Nat × Blk) → List Nat → Option R'), SameOps o tm tm' → SameBlk rd H H' → evE Γ slot o tm' H' k' = k' v ed rd := by
  unfold evE at h
  split at h
  · -- box
    rename_i T x
    split at h
    · rename_i cs hcs
      exact ⟨_, _, _, h, fun tm' H' R' k' ho hb => by simp only [evE]; rw [ho x (by simp [Op.operands]), hcs]⟩
    · cases h
  · -- alloc
    split at h
    · rename_i i hi
      exact ⟨_, _, _, h, fun tm' H' R' k' ho hb => by simp only [evE, hi]⟩
    · cases h
  · -- build
    rename_i T parts
    split at h
    · rename_i i hi
      split at h
      · rename_i fs hd
        split at h
        · rename_i ps hps
          split at h
          · rename_i cs hcs
            refine ⟨_, _, _, h, fun tm' H' R' k' ho hb => ?_⟩
            have := places_congr (Γ := Γ) (fs := fs) (tm := tm) (tm' := tm') (l := parts.toList) fun p hp => ho p.2 (by
              simp only [Op.operands, List.mem_toArray, List.mem_map]
              exact ⟨p, hp, rfl⟩)
            simp only [evE, hi, hd]
            rw [this, hps]
            simp only [hcs]
          · cases h
        · cases h
      · cases h
    · cases h
  · -- buildSlice
    rename_i T len parts
    split at h
    · rename_i i hi
      split at h
      · rename_i e hd
        split at h
        · rename_i ei hei
          split at h
          · rename_i hle
            split at h
            · rename_i cs hcs
              split at h
              · rename_i b hb
                refine ⟨_, _, _, h, fun tm' H' R' k' ho hbb => ?_⟩
                have := elems_congr (sz := ei.size) (tm := tm) (tm' := tm') (l := parts.toList) fun p hp => ho p.2 (by
                  simp only [Op.operands, List.mem_toArray, List.mem_map]
                  exact ⟨p, hp, rfl⟩)
                simp only [evE, hi, hd, hei, hle]
                rw [this, hcs]
                simp only [hb]
              · cases h
            · cases h
          · cases h
        · cases h
      · cases h
    · cases h
  · -- store
    rename_i T p x
    split at h
    · rename_i t off ext hp
      split at h
      · rename_i i b cs hi hb hcs
        split at h
        · rename_i hl
          split at h
          · rename_i hle
            split at h
            · rename_i hown
              split at h
              · rename_i b' hset
                refine ⟨_, _, _, h, fun tm' H' R' k' ho hbb => ?_⟩
                simp only [evE]
                rw [ho p (by simp [Op.operands]), ho x (by simp [Op.operands]), hp, hcs, hi]
                simp only
                rw [hbb t (by simp), hb]
                simp only [hl, hle, hown, hset]
              · cases h
            · cases h
          · cases h
        · cases h
      · cases h
    · cases h
  · -- makeSlice
    rename_i T l c
    split at h
    · rename_i i hi
      split at h
      · rename_i e hd
        split at h
        · rename_i ei hei
          split at h
          · rename_i n m hn hm
            obtain ⟨hp, h⟩ := chk_nat h
            split at h
            · rename_i b hb
              refine ⟨_, _, _, h, fun tm' H' R' k' ho hbb => ?_⟩
              simp only [evE, hi, hd, hei]
              rw [ho l (by simp [Op.operands]), ho c (by simp [Op.operands]), hn, hm]
              simp only [chk_pos hp, hb]
            · cases h
          · cases h
        · cases h
      · cases h
    · cases h
  · -- append
    rename_i c
    split at h
    · rename_i hc
      have harg : ∀ (tm' : List (Nat × AV)), SameOps (.call c) tm tm' → opnds tm' c.args.toList = opnds tm c.args.toList := fun tm' ho =>
        opnds_congr fun x hx => ho x (by simp only [Op.operands, Call.operands, Array.mem_append]; exact .inr (by simpa using hx))
      split at h
      · rename_i T T' s x hTs hops
        split at h
        · rename_i i i' hi hi'
          split at h
          · rename_i e hd hTT
            split at h
            · rename_i ei m src hei hrd
              split at h
              · obtain ⟨hp, h⟩ := chk_nat h
                refine ⟨_, _, _, h, fun tm' H' R' k' ho hbb => ?_⟩
                simp only [evE, hc]
                rw [hTs, harg _ ho, hops]
                simp only [hi, hi', hd, hTT, hei]
                rw [rdSl_congr hbb, hrd]
                simp only [chk_pos hp]
              · rename_i t off len sz
                split at h
                · rename_i b hb
                  split at h
                  · rename_i h1 h2 h3
                    split at h
                    · rename_i b' happ
                      obtain ⟨hp, h⟩ := chk_nat h
                      refine ⟨_, _, _, h, fun tm' H' R' k' ho hbb => ?_⟩
                      simp only [evE, hc]
                      rw [hTs, harg _ ho, hops]
                      simp only [hi, hi', hd, hTT, hei]
                      rw [rdSl_congr (x := x) fun u hu => hbb u (by simp [hu]), hrd]
                      simp only
                      rw [hbb t (by simp), hb]
                      simp only [h1, h2, h3, happ, chk_pos hp]
                    · cases h
                  · cases h
                · cases h
              · cases h
            · cases h
          · cases h
        · cases h
      · cases h
    · cases h
  · cases h

theorem dpA_local {H : List Blk} {T : TypeId} {a : At} {p : PV} {rd : List Nat} (h : dpA Γ H T a = some (p, rd)) {H' : List Blk} (hb : SameBlk rd H H') : dpA Γ H' T a = some (p, rd) := by
  unfold dpA at h
  split at h
  · cases h; rfl
  · cases h; rfl
  · cases h; rfl
  · cases h; rfl
  · split at h
    · rename_i b hn
      split at h
      · rename_i hr
        cases h
        simp only [dpA]
        rw [hb _ (by simp), hn]
        simp only [hr]
      · cases h
    · cases h
  · split at h
    · rename_i b hn
      split at h
      · rename_i hr
        cases h
        simp only [dpA]
        rw [hb _ (by simp), hn]
        simp only [hr]
      · cases h
    · cases h
  · simp only [dpA]; exact h
  · cases h
theorem dpAs_local {H H' : List Blk} : ∀ {as : List At} {Ts : List TypeId} {p : List PV} {rd : List Nat}, dpAs Γ H Ts as = some (p, rd) → SameBlk rd H H' → dpAs Γ H' Ts as = some (p, rd)
  | [], Ts, p, rd, h, _ => by simp only [dpAs] at h ⊢; exact h
  | a :: r, Ts, p, rd, h, hb => by
    simp only [dpAs] at h
    split at h
    · rename_i q x qs y h1 h2
      cases h
      simp only [dpAs]
      rw [dpA_local h1 fun t ht => hb t (by simp [ht]), dpAs_local h2 fun t ht => hb t (by simp [ht])]
    · cases h
theorem dpV_local {H H' : List Blk} {T : TypeId} {v : AV} {p : PT} {rd : List Nat} (h : dpV Γ H T v = some (p, rd)) (hb : SameBlk rd H H') : dpV Γ H' T v = some (p, rd) := by
  unfold dpV at h
  split at h
  · split at h
    · rename_i b hn
      split at h
      · rename_i cs hcs
        split at h
        · cases h
        · rename_i he
          split at h
          · rename_i ps x hd
            cases h
            simp only [dpV]
            rw [hb _ (by simp), hn]
            simp only [hcs, he]
            rw [dpAs_local hd fun t ht => hb t (by simp [ht])]
          · cases h
      · cases h
    · cases h
  · split at h
    · rename_i ps x hd
      cases h
      simp only [dpV]
      rw [dpAs_local hd hb]
    · cases h
  · rename_i a h1 h2
    split at h
    · rename_i q x hd
      cases h
      have := dpA_local hd hb
      cases a <;> first | (exact absurd rfl (h1 _ _ _)) | (exact absurd rfl (h2 _ _)) | (simp only [dpV, this])
    · cases h
  · split at h
    · rename_i ps x hd
      cases h
      simp only [dpV]
      rw [dpAs_local hd hb]
    · cases h
  · cases h
theorem dpVs_local {H H' : List Blk} : ∀ {as : List AV} {Ts : List TypeId} {p : List PT} {rd : List Nat}, dpVs Γ H Ts as = some (p, rd) → SameBlk rd H H' → dpVs Γ H' Ts as = some (p, rd)
  | [], Ts, p, rd, h, _ => by simp only [dpVs] at h ⊢; exact h
  | a :: r, Ts, p, rd, h, hb => by
    simp only [dpVs] at h
    split at h
    · rename_i q x qs y h1 h2
      cases h
      simp only [dpVs]
      rw [dpV_local h1 fun t ht => hb t (by simp [ht]), dpVs_local h2 fun t ht => hb t (by simp [ht])]
    · cases h

theorem evD_local {slot : Nat} {o : Op} {tm : List (Nat × AV)} {H : List Blk} {k : AV → List (Nat × Blk) → List Nat → Option R} {r : R} (h : evD Γ slot o tm H k = some r) :
    ∃ v ed rd, k v ed rd = some r ∧ ∀ (tm' : List (Nat × AV)) (H' : List Blk) (R' : Type) (k' : AV → List (Nat × Blk) → List Nat → Option R'), SameOps o tm tm' → SameBlk rd H H' → evD Γ slot o tm' H' k' = k' v ed rd := by
  unfold evD at h
  split at h
  · rename_i hk
    obtain ⟨v, h1, h2⟩ := evQ_local h
    refine ⟨v, _, _, h1, fun tm' H' R' k' ho hb => ?_⟩
    simp only [evD, hk]
    rw [h2 tm' H' _ _ ho (by unfold rdQ; exact hb)]
    cases o <;> try rfl
    rename_i T a
    simp only
    rw [ho a (by simp [Op.operands])]
  · rename_i hk
    obtain ⟨v, ed, rd, h1, h2⟩ := evE_local h
    exact ⟨v, ed, rd, h1, fun tm' H' R' k' ho hb => by simp only [evD, hk]; exact h2 _ _ _ _ ho hb⟩
  · rename_i hk0 hk1
    split at h
    · rename_i c
      split at h
      · rename_i f hc
        split at h
        · rename_i g caps hf
          split at h
          · rename_i pts rd hd
            split at h
            · rename_i b v news hs
              split at h
              · rename_i hl
                obtain ⟨rfl, h⟩ := grd_inv h
                refine ⟨_, _, _, h, fun tm' H' R' k' ho hb => ?_⟩
                have harg : opnds tm' c.args.toList = opnds tm c.args.toList :=
                  opnds_congr fun x hx => ho x (by simp only [Op.operands, Call.operands, Array.mem_append]; exact .inr (by simpa using hx))
                have hk2 : kindOf (.call c) = 2 := by simp only [kindOf, hc]
                simp only [evD, hk2, hc]
                rw [ho f (by simp [Op.operands, Call.operands, hc]), hf]
                simp only
                rw [harg, dpVs_local hd hb]
                simp only [hs, hl, grd]
              · cases h
            · cases h
          · cases h
        · cases h
      · cases h
    · cases h
end
end Go.Rf
