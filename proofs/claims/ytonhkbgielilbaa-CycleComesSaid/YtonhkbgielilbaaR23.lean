/- A reckoner over Go's operations: tables of what is known of functions. -/
import Derived.Test.YtonhkbgielilbaaR22
namespace Go.Proofs.Ytonhkbgielilbaa.Rig
open Go
abbrev Ent := List AV → Mem → Option (Tree (AV × Mem))
def look : List (FuncId × Ent) → FuncId → Ent
  | [], _, _, _ => none
  | (g, e) :: l, f, a, M => match Nat.beq f g with | true => e a M | false => look l f a M
def mkC (P : Program) (ng : Nat) (gl : Nat → Option Nat) (l : List (FuncId × Ent)) : Ctx :=
  { P := P, ng := ng, gl := gl, call := look l, keep := fun _ _ => none, loop := fun _ _ _ => .fail }
def EntOk (P : Program) (ng : Nat) (gl : Nat → Option Nat) (f : FuncId) (e : Ent) : Prop :=
  ∀ args M t, e args M = some t → ∀ r, t.runs r → SoundAt (mkC P ng gl []) f args M r
def AllOk (P : Program) (ng : Nat) (gl : Nat → Option Nat) : List (FuncId × Ent) → Prop
  | [] => True
  | p :: l => EntOk P ng gl p.1 p.2 ∧ AllOk P ng gl l
section
variable {P : Program} {ng : Nat} {gl : Nat → Option Nat}
theorem tab_ok : ∀ {l : List (FuncId × Ent)}, AllOk P ng gl l → TabOk (mkC P ng gl l)
  | [], _, f, args, M, t, h, r, hr => by cases h
  | (g, e) :: l, hl, f, args, M, t, h, r, hr => by
    have h' : (match Nat.beq f g with | true => e args M | false => look l f args M) = some t := h
    cases hb : Nat.beq f g
    · rw [hb] at h'
      exact tab_ok hl.2 f args M t h' r hr
    · rw [hb] at h'
      have := Nat.eq_of_beq_eq_true hb
      subst this
      exact hl.1 args M t h' r hr
theorem sound_of {l : List (FuncId × Ent)} (hA : AllOk P ng gl l) (hmix : P.follows .mixedOrders = true) {f : FuncId} {args : List AV} {M : Mem} {T : Tree (AV × Mem)}
    (hT : evBody (mkC P ng gl l) (evCall (mkC P ng gl l) 50) f args M = T) {v : AV} {M' : Mem} (h : T.Gives v M') : SoundAt (mkC P ng gl []) f args M (v, M') :=
  SoundAt.of_body (C := mkC P ng gl l) (call_ok (tab_ok hA) hmix (fun _ _ => rfl) 50) hmix (fun _ _ _ _ b _ hb => by cases hb) hT h
theorem leL_rep {σ : Sig} : ∀ {us bs : List AV} {vals : List Value}, AV.leL us bs → RepL σ us vals → RepL σ bs vals
  | [], [], _, _, h => h
  | [], _ :: _, _, h, _ => by simp only [AV.leL] at h
  | _ :: _, [], _, h, _ => by simp only [AV.leL] at h
  | a :: us, b :: bs, vals, h, hr => by
    simp only [AV.leL] at h
    simp only [RepL] at hr
    obtain ⟨u, r, rfl, h1, h2⟩ := hr
    simp only [RepL]
    exact ⟨u, r, rfl, h.1.imp _ _ h1, leL_rep h.2 h2⟩
theorem SoundAt.flags {C : Ctx} {f : FuncId} {us bs : List AV} {M : Mem} {r : AV × Mem} (h : SoundAt C f bs M r) (hl : AV.leL us bs) : SoundAt C f us M r :=
  fun σ w vals ha hr hg hng => h σ w vals (leL_rep hl ha) hr hg hng
end
theorem Cap.le_refl (m : Cap) : m.le m := by cases m <;> trivial
mutual
theorem AV.le_refl : ∀ a : AV, a.le a
  | .junk => by simp only [AV.le]
  | .bool _ _ => by simp only [AV.le]
  | .int _ _ _ => by simp only [AV.le, and_self]
  | .nilp => by simp only [AV.le]
  | .ptr _ => by simp only [AV.le, and_self]
  | .sl _ _ _ _ m => by unfold AV.le; exact ⟨rfl, rfl, fun _ => ⟨rfl, rfl, Cap.le_refl m⟩⟩
  | .fn _ a b => by unfold AV.le; exact ⟨rfl, AV.leL_refl a, AV.leL_refl b⟩
  | .nilfn => by simp only [AV.le]
  | .agg cs => by simp only [AV.le]; exact AV.leL_refl cs
  | .tup cs => by simp only [AV.le]; exact AV.leL_refl cs
theorem AV.leL_refl : ∀ l : List AV, AV.leL l l
  | [] => by simp only [AV.leL]
  | a :: l => by simp only [AV.leL]; exact ⟨AV.le_refl a, AV.leL_refl l⟩
end
theorem Data.le_refl (d : Data) : d.le d := by
  cases d with
  | cells l => simp only [Data.le]; exact AV.leL_refl l
  | ints k l => simp only [Data.le, and_self]
  | tab sz n f => unfold Data.le; exact ⟨rfl, rfl, fun i _ => AV.leL_refl _⟩
theorem Blk.le_refl (b : Blk) : b.le b := ⟨rfl, id, rfl, id, Data.le_refl _⟩
theorem Mem.le_refl : ∀ M : Mem, Mem.le M M
  | [] => by simp only [Mem.le]
  | none :: M => by simp only [Mem.le]; exact Mem.le_refl M
  | some b :: M => by simp only [Mem.le]; exact ⟨Blk.le_refl b, Mem.le_refl M⟩
theorem Tree.Gives.br {b : Bool} {t e : Tree (AV × Mem)} {v : AV} {M : Mem} (h : b = true → t.Gives v M) (h' : b = false → e.Gives v M) : (Tree.br b t e).Gives v M := ⟨h, h'⟩
theorem Tree.Gives.chk {p : Prop} {t : Tree (AV × Mem)} {v : AV} {M : Mem} (h : p) (h' : t.Gives v M) : (Tree.chk p t).Gives v M := ⟨h, h'⟩
theorem Tree.Gives.ret {a v : AV} {M M' : Mem} (h : a.le v) (h' : Mem.le M M') : (Tree.ret (a, M)).Gives v M' := ⟨h, h'⟩
end Go.Proofs.Ytonhkbgielilbaa.Rig
