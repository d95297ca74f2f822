/-
  What an operation answers hangs on its operands and on the blocks that it looks at alone.
-/
import Derived.Test.YtohhkgieggfpeaaW4
set_option linter.unusedVariables false
namespace Go.Rf
open Go

section
variable {Γ : Ctx} {R : Type}

/-- It answers one value, whatever is done with it. -/
def Nat1 (F : (R' : Type) → (AV → Option R') → Option R') (k : AV → Option R) (r : R) : Prop := ∃ v, k v = some r ∧ ∀ (R' : Type) (k' : AV → Option R'), F R' k' = k' v

theorem evBin_nat {d : Desc} {op : BinOp} {x y : AV} {k : AV → Option R} {r : R} (h : evBin d op x y k = some r) : Nat1 (fun R' k' => evBin (R := R') d op x y k') k r := by
  unfold evBin at h
  split at h
  · split at h
    · rename_i sh hsh
      obtain ⟨hp, h⟩ := chk_nat h
      exact ⟨_, h, fun _ _ => by simp only [evBin, hsh, chk_pos hp]⟩
    · rename_i hsh
      split at h
      · cases h
      · rename_i hj
        split at h
        · exact ⟨_, h, fun _ _ => by simp only [evBin, hsh, hj]⟩
        · exact ⟨_, h, fun _ _ => by simp only [evBin, hsh, hj]⟩
        · exact ⟨_, h, fun _ _ => by simp only [evBin, hsh, hj]⟩
        · obtain ⟨hp, h⟩ := chk_nat h
          exact ⟨_, h, fun _ _ => by simp only [evBin, hsh, hj, chk_pos hp]⟩
        · obtain ⟨hp, h⟩ := chk_nat h
          exact ⟨_, h, fun _ _ => by simp only [evBin, hsh, hj, chk_pos hp]⟩
        · split at h
          · rename_i hbit
            refine ⟨_, h, fun _ _ => ?_⟩
            cases op <;> first | (cases hbit; done) | simp only [evBin, hsh, hj, hbit]
          · rename_i hbit
            split at h
            · rename_i c hc
              refine ⟨_, h, fun _ _ => ?_⟩
              cases op <;> first | (cases hc; done) | (cases hsh; done) | simp only [evBin, hsh, hj, hbit, hc]
            · cases h
  · split at h
    · cases h
    · rename_i hj
      split at h
      · rename_i ha; exact ⟨_, h, fun _ _ => by simp only [evBin, hj, ha]⟩
      · rename_i ha
        split at h
        · rename_i hc; exact ⟨_, h, fun _ _ => by simp only [evBin, hj, ha, hc]⟩
        · cases h
  · split at h
    · cases h
    · rename_i hj
      split at h <;> first | (cases h; done) | exact ⟨_, h, fun _ _ => by simp only [evBin, hj]⟩
  · split at h <;> first | (cases h; done) | exact ⟨_, h, fun _ _ => by simp only [evBin]⟩
  · cases h

theorem evUn_nat {op : UnOp} {x : AV} {k : AV → Option R} {r : R} (h : evUn op x k = some r) : Nat1 (fun R' k' => evUn (R := R') op x k') k r := by
  unfold evUn at h
  split at h <;> first | (cases h; done) | exact ⟨_, h, fun _ _ => rfl⟩

theorem evConv_nat {d : Desc} {x : AV} {k : AV → Option R} {r : R} (h : evConv d x k = some r) : Nat1 (fun R' k' => evConv (R := R') d x k') k r := by
  unfold evConv at h
  split at h
  · exact ⟨_, h, fun _ _ => rfl⟩
  · exact ⟨_, h, fun _ _ => rfl⟩
  · exact ⟨_, h, fun _ _ => rfl⟩
  · obtain ⟨hc, h⟩ := grd_inv h
    exact ⟨_, h, fun _ _ => by simp only [evConv, hc]; rfl⟩
  · exact ⟨_, h, fun _ _ => rfl⟩
  · exact ⟨_, h, fun _ _ => rfl⟩
  · obtain ⟨hc, h⟩ := grd_inv h
    exact ⟨_, h, fun _ _ => by simp only [evConv, hc]; rfl⟩
  · cases h

/-- The operands stand as they stood. -/
def SameOps (o : Op) (tm tm' : List (Nat × AV)) : Prop := ∀ x ∈ o.operands, opnd tm' x = opnd tm x
/-- The blocks named stand as they stood. -/
def SameBlk (rd : List Nat) (H H' : List Blk) : Prop := ∀ t ∈ rd, nth H' t = nth H t

theorem opnds_congr {tm tm' : List (Nat × AV)} : ∀ {l : List Operand}, (∀ x ∈ l, opnd tm' x = opnd tm x) → opnds tm' l = opnds tm l
  | [], _ => rfl
  | x :: r, h => by simp only [opnds]; rw [h x (by simp), opnds_congr fun y hy => h y (by simp [hy])]

def rdQ (o : Op) (tm : List (Nat × AV)) : List Nat := match o with | .load _ a => tgV (opnd tm a) | _ => []

theorem evQ_local {o : Op} {tm : List (Nat × AV)} {H : List Blk} {k : AV → Option R} {r : R} (h : evQ Γ o tm H k = some r) :
    ∃ v, k v = some r ∧ ∀ (tm' : List (Nat × AV)) (H' : List Blk) (R' : Type) (k' : AV → Option R'), SameOps o tm tm' → SameBlk (rdQ o tm) H H' → evQ Γ o tm' H' k' = k' v := by
  unfold evQ at h
  split at h
  · exact ⟨_, h, fun tm' H' R' k' ho hb => by simp only [evQ]; rw [ho _ (by simp [Op.operands])]⟩
  · exact ⟨_, h, fun tm' H' R' k' ho hb => by simp only [evQ]; rw [ho _ (by simp [Op.operands])]⟩
  · -- pick
    rename_i c a b
    split at h
    · rename_i cv hc
      cases cv
      · exact ⟨_, h, fun tm' H' R' k' ho hb => by simp only [evQ]; rw [ho c (by simp [Op.operands]), ho a (by simp [Op.operands]), ho b (by simp [Op.operands]), hc]; rfl⟩
      · exact ⟨_, h, fun tm' H' R' k' ho hb => by simp only [evQ]; rw [ho c (by simp [Op.operands]), ho a (by simp [Op.operands]), ho b (by simp [Op.operands]), hc]; rfl⟩
    · cases h
  · -- binOp
    split at h
    · rename_i i hi
      obtain ⟨v, h1, h2⟩ := evBin_nat h
      exact ⟨v, h1, fun tm' H' R' k' ho hb => by simp only [evQ, hi]; rw [ho _ (by simp [Op.operands]), ho _ (by simp [Op.operands])]; exact h2 _ _⟩
    · cases h
  · obtain ⟨v, h1, h2⟩ := evUn_nat h
    exact ⟨v, h1, fun tm' H' R' k' ho hb => by simp only [evQ]; rw [ho _ (by simp [Op.operands])]; exact h2 _ _⟩
  · split at h
    · rename_i h1 h2
      obtain ⟨v, h3, h4⟩ := evConv_nat h
      exact ⟨v, h3, fun tm' H' R' k' ho hb => by simp only [evQ, h1, h2]; rw [ho _ (by simp [Op.operands])]; exact h4 _ _⟩
    · cases h
  · -- nilCheck
    split at h
    · rename_i hx
      exact ⟨_, h, fun tm' H' R' k' ho hb => by simp only [evQ]; rw [ho _ (by simp [Op.operands]), hx]⟩
    · rename_i hx
      exact ⟨_, h, fun tm' H' R' k' ho hb => by simp only [evQ]; rw [ho _ (by simp [Op.operands]), hx]⟩
    · cases h
  · -- load
    rename_i T a
    split at h
    · rename_i t off ext ha
      split at h
      · rename_i i b hi hb
        have key : ∀ (tm' : List (Nat × AV)) (H' : List Blk), SameOps (.load T a) tm tm' → SameBlk (rdQ (.load T a) tm) H H' → opnd tm' a = .v (.one (.ptr t off ext)) ∧ nth H' t = some b := fun tm' H' ho hbb =>
          ⟨by rw [ho a (by simp [Op.operands]), ha], by rw [hbb t (by simp [rdQ, ha, tgV, tgT, tg1, tg0]), hb]⟩
        split at h
        · cases h
        · rename_i hle
          split at h
          · rename_i hg
            split at h
            · rename_i cs hcs
              exact ⟨_, h, fun tm' H' R' k' ho hb => by obtain ⟨e1, e2⟩ := key _ _ ho hb; simp only [evQ, e1, hi, e2, hle, hg, hcs]⟩
            · cases h
          · rename_i hg
            split at h
            · rename_i hs
              split at h
              · rename_i av hav
                split at h
                · cases h
                · rename_i hany
                  exact ⟨_, h, fun tm' H' R' k' ho hb => by obtain ⟨e1, e2⟩ := key _ _ ho hb; simp only [evQ, e1, hi, e2, hle, hg, hs, hav, hany]⟩
              · cases h
            · cases h
      · cases h
    · cases h
  · -- fieldAddr
    rename_i T a f
    split at h
    · rename_i t off ext ha
      split at h
      · rename_i i hi
        split at h
        · rename_i fs hd
          split at h
          · rename_i fo ft hf
            split at h
            · rename_i fi hfi
              split at h
              · rename_i h1
                split at h
                · rename_i h2
                  exact ⟨_, h, fun tm' H' R' k' ho hb => by simp only [evQ]; rw [ho a (by simp [Op.operands]), ha]; simp only [hi, hd, hf, hfi, h1, h2]⟩
                · cases h
              · cases h
            · cases h
          · cases h
        · cases h
      · cases h
    · cases h
  · -- field
    rename_i T a f
    split at h
    · rename_i cs ha
      split at h
      · rename_i i hi
        split at h
        · rename_i fs hd
          split at h
          · rename_i fo ft hf
            split at h
            · rename_i fi hfi
              split at h
              · rename_i hg
                split at h
                · rename_i ds hds
                  exact ⟨_, h, fun tm' H' R' k' ho hb => by simp only [evQ]; rw [ho a (by simp [Op.operands]), ha]; simp only [hi, hd, hf, hfi, hg, hds]⟩
                · cases h
              · rename_i hg
                split at h
                · rename_i av hav
                  split at h
                  · cases h
                  · rename_i hany
                    exact ⟨_, h, fun tm' H' R' k' ho hb => by simp only [evQ]; rw [ho a (by simp [Op.operands]), ha]; simp only [hi, hd, hf, hfi, hg, hav, hany]⟩
                · cases h
            · cases h
          · cases h
        · cases h
      · cases h
    · cases h
  · -- indexAddr
    rename_i T x i
    split at h
    · rename_i ti hti
      split at h
      · rename_i e hd
        split at h
        · rename_i ei hei
          split at h
          · rename_i h1 h2
            split at h
            · rename_i hs
              obtain ⟨hp, h⟩ := chk_nat h
              exact ⟨_, h, fun tm' H' R' k' ho hb => by simp only [evQ, hti, hd, hei]; rw [ho x (by simp [Op.operands]), ho i (by simp [Op.operands]), h1, h2]; simp only [hs, chk_pos hp]⟩
            · cases h
          · rename_i h1 h2
            split at h
            · rename_i hs
              obtain ⟨hp, h⟩ := chk_nat h
              exact ⟨_, h, fun tm' H' R' k' ho hb => by simp only [evQ, hti, hd, hei]; rw [ho x (by simp [Op.operands]), ho i (by simp [Op.operands]), h1, h2]; simp only [hs, chk_pos hp]⟩
            · cases h
          · cases h
        · cases h
      · cases h
    · cases h
  · -- slice
    rename_i T x lo hi mx
    split at h
    · rename_i ti hti
      split at h
      · rename_i e hd
        split at h
        · rename_i ei hei
          simp only at h
          split at h
          · rename_i t off len sz hx
            split at h
            · cases h
            · rename_i hs
              split at h
              · split at h
                · split at h
                  · exact ⟨_, h, fun tm' H' R' k' ho hb => by simp only [evQ, hti, hd, hei]; rw [ho x (by simp [Op.operands]), hx]; simp only [hs]⟩
                  · cases h
                · cases h
              · cases h
              · cases lo with
                | none =>
                  cases hi with
                  | none =>
                    obtain ⟨hp, h⟩ := chk_nat h
                    refine ⟨_, h, fun tm' H' R' k' ho hb => ?_⟩
                    simp only [evQ, hti, hd, hei]
                    rw [ho x (by simp [Op.operands]), hx]
                    simp only [hs]
                    rw [chk_pos hp]
                  | some z =>
                    simp only at h
                    split at h
                    · rename_i jz n hz
                      obtain ⟨hp, h⟩ := chk_nat h
                      refine ⟨_, h, fun tm' H' R' k' ho hb => ?_⟩
                      simp only [evQ, hti, hd, hei]
                      rw [ho x (by simp [Op.operands]), hx, ho z (by simp [Op.operands]), hz]
                      simp only [hs]
                      rw [chk_pos hp]
                    · cases h
                | some y =>
                  simp only at h
                  split at h
                  · rename_i jy m hy
                    cases hi with
                    | none =>
                      obtain ⟨hp, h⟩ := chk_nat h
                      refine ⟨_, h, fun tm' H' R' k' ho hb => ?_⟩
                      simp only [evQ, hti, hd, hei]
                      rw [ho x (by simp [Op.operands]), hx, ho y (by simp [Op.operands]), hy]
                      simp only [hs]
                      rw [chk_pos hp]
                    | some z =>
                      simp only at h
                      split at h
                      · rename_i jz n hz
                        obtain ⟨hp, h⟩ := chk_nat h
                        refine ⟨_, h, fun tm' H' R' k' ho hb => ?_⟩
                        simp only [evQ, hti, hd, hei]
                        rw [ho x (by simp [Op.operands]), hx, ho y (by simp [Op.operands]), ho z (by simp [Op.operands]), hy, hz]
                        simp only [hs]
                        rw [chk_pos hp]
                      · cases h
                  · cases h
          · rename_i t off len sz hx
            split at h
            · cases h
            · rename_i hs
              split at h
              · split at h
                · split at h
                  · exact ⟨_, h, fun tm' H' R' k' ho hb => by simp only [evQ, hti, hd, hei]; rw [ho x (by simp [Op.operands]), hx]; simp only [hs]⟩
                  · cases h
                · cases h
              · cases h
              · cases lo with
                | none =>
                  cases hi with
                  | none =>
                    obtain ⟨hp, h⟩ := chk_nat h
                    refine ⟨_, h, fun tm' H' R' k' ho hb => ?_⟩
                    simp only [evQ, hti, hd, hei]
                    rw [ho x (by simp [Op.operands]), hx]
                    simp only [hs]
                    rw [chk_pos hp]
                  | some z =>
                    simp only at h
                    split at h
                    · rename_i jz n hz
                      obtain ⟨hp, h⟩ := chk_nat h
                      refine ⟨_, h, fun tm' H' R' k' ho hb => ?_⟩
                      simp only [evQ, hti, hd, hei]
                      rw [ho x (by simp [Op.operands]), hx, ho z (by simp [Op.operands]), hz]
                      simp only [hs]
                      rw [chk_pos hp]
                    · cases h
                | some y =>
                  simp only at h
                  split at h
                  · rename_i jy m hy
                    cases hi with
                    | none =>
                      obtain ⟨hp, h⟩ := chk_nat h
                      refine ⟨_, h, fun tm' H' R' k' ho hb => ?_⟩
                      simp only [evQ, hti, hd, hei]
                      rw [ho x (by simp [Op.operands]), hx, ho y (by simp [Op.operands]), hy]
                      simp only [hs]
                      rw [chk_pos hp]
                    | some z =>
                      simp only at h
                      split at h
                      · rename_i jz n hz
                        obtain ⟨hp, h⟩ := chk_nat h
                        refine ⟨_, h, fun tm' H' R' k' ho hb => ?_⟩
                        simp only [evQ, hti, hd, hei]
                        rw [ho x (by simp [Op.operands]), hx, ho y (by simp [Op.operands]), ho z (by simp [Op.operands]), hy, hz]
                        simp only [hs]
                        rw [chk_pos hp]
                      · cases h
                  · cases h
          · rename_i hx
            split at h
            · split at h
              · split at h
                · exact ⟨_, h, fun tm' H' R' k' ho hb => by simp only [evQ, hti, hd, hei]; rw [ho x (by simp [Op.operands]), hx]⟩
                · cases h
              · cases h
            · cases h
          · cases h
        · cases h
      · cases h
    · cases h
  · -- extract
    split at h
    · rename_i vs hx
      split at h
      · rename_i hn
        exact ⟨_, h, fun tm' H' R' k' ho hb => by simp only [evQ]; rw [ho _ (by simp [Op.operands]), hx]; simp only [hn]⟩
      · cases h
    · cases h
  · -- makeFunc
    rename_i fn first caps
    split at h
    · rename_i f
      split at h
      · rename_i hf
        split at h
        · rename_i hc
          exact ⟨_, h, fun tm' H' R' k' ho hb => by simp only [evQ, hf, hc]⟩
        · rename_i x hc
          have hxm : x ∈ caps.toList := by rw [hc]; simp
          split at h
          · rename_i a ha
            split at h
            · cases h
            · rename_i hfn
              exact ⟨_, h, fun tm' H' R' k' ho hb => by simp only [evQ, hf, hc]; rw [ho x (by simp [Op.operands]; exact .inr (by simpa using hxm)), ha]; simp only [hfn]⟩
          · cases h
        · rename_i x y hc
          have hxm : x ∈ caps.toList := by rw [hc]; simp
          have hym : y ∈ caps.toList := by rw [hc]; simp
          split at h
          · rename_i a b ha hb'
            split at h
            · rename_i h1 h2
              exact ⟨_, h, fun tm' H' R' k' ho hb => by
                simp only [evQ, hf, hc]
                rw [ho x (by simp [Op.operands]; exact .inr (by simpa using hxm)), ho y (by simp [Op.operands]; exact .inr (by simpa using hym)), ha, hb']; simp only [h1, h2]⟩
            · cases h
          · cases h
        · cases h
      · cases h
    · cases h
  · -- call
    rename_i c
    have harg : ∀ (tm' : List (Nat × AV)), SameOps (.call c) tm tm' → opnds tm' c.args.toList = opnds tm c.args.toList := fun tm' ho =>
      opnds_congr fun x hx => ho x (by simp only [Op.operands, Call.operands, Array.mem_append]; exact .inr (by simpa using hx))
    split at h
    · rename_i hc
      split at h
      · rename_i T hT
        split at h
        · rename_i ti hti
          split at h
          · rename_i hd
            split at h <;> first | (cases h; done) | (rename_i hx; exact ⟨_, h, fun tm' H' R' k' ho hb => by simp only [evQ, hc, hT, hti, hd]; rw [harg _ ho, hx]⟩)
          · cases h
        · cases h
      · cases h
    · rename_i hc
      split at h
      · rename_i hx; exact ⟨_, h, fun tm' H' R' k' ho hb => by simp only [evQ, hc]; rw [harg _ ho, hx]⟩
      · cases h
    · rename_i hc
      split at h
      · rename_i hx; exact ⟨_, h, fun tm' H' R' k' ho hb => by simp only [evQ, hc]; rw [harg _ ho, hx]⟩
      · cases h
    · rename_i hc
      split at h
      · rename_i hx
        split at h
        · rename_i hj
          exact ⟨_, h, fun tm' H' R' k' ho hb => by simp only [evQ, hc]; rw [harg _ ho, hx]; simp only [hj]⟩
        · cases h
      · cases h
    · rename_i hc
      split at h
      · rename_i hx; exact ⟨_, h, fun tm' H' R' k' ho hb => by simp only [evQ, hc]; rw [harg _ ho, hx]⟩
      · cases h
    · rename_i hc
      split at h
      · rename_i hx; exact ⟨_, h, fun tm' H' R' k' ho hb => by simp only [evQ, hc]; rw [harg _ ho, hx]⟩
      · cases h
    · cases h
  · cases h
end
end Go.Rf
