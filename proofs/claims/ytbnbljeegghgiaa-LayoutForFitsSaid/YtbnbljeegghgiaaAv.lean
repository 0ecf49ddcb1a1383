/- Abstract values and memory, and how they stand to the model's. No program in sight. -/
import Derived.Test.YtbnbljeegghgiaaLn
import Derived.RowKit
namespace Go.Proofs.Ytbnbljeegghgiaa
open Go.RowKit

inductive AV where
  | any
  | int (k : IntKind) (e : SE) | bool (e : SE) | str (e : SE)
  | nilp | ptr (b o : Nat) | elt (b s : Nat) (i : SE) (j : Nat)
  | nils | sl (b s : Nat) (off len : SE) (cap : Option SE)
  | func (fn : Fn) (first cap : List AV) | nilf
  | iface (t : TypeId) (v : AV) | nili
  | agg (cs : List AV) | tup (vs : List AV)
  | map (b : Nat) | nilm

/-- What a cell of a row of plain data is. -/
inductive CK where
  | int (k : IntKind) | bool | str
  deriving DecidableEq
def CK.av : CK → SE → AV
  | .int k, e => .int k e
  | .bool, e => .bool e
  | .str, e => .str e
def bytesOf (s : List UInt8) : ByteArray := ⟨s.toArray⟩
def CK.val : CK → DV → Value
  | .int k, d => .int k d.i
  | .bool, d => .bool d.b
  | .str, d => .string (bytesOf d.s)
/-- Cell j of a row's element. -/
def cellD (ks : List CK) (d : DV) (j : Nat) : DV := match ks with | [_] => d | _ => d.l[j]?.getD (.int 0)
def cellE (ks : List CK) (e : SE) (j : Nat) : SE := match ks with | [_] => e | _ => mkB .idx e (.int j)
theorem cellE_den (ks : List CK) (e : SE) (j : Nat) (ρ : Env) : (cellE ks e j).den ρ = cellD ks (e.den ρ) j := by
  unfold cellE cellD
  split
  · rfl
  · rw [mkB_den]; simp [evB, SE.den, DV.i]

inductive Ob where
  | cells (cs : List AV)
  | rows (ks : List CK) (e : SE)
  | ro (ks : List CK) (e : SE)
  | map (es : List (AV × AV))
def Ob.own : Ob → Bool
  | .ro .. => false
  | _ => true

/-- Where an abstract block lies. -/
structure GI where
  blk : Nat
  off : Nat
  sz : Nat
abbrev Gh := Nat → Option GI
def Gh.le (G G' : Gh) : Prop := ∀ b g, G b = some g → G' b = some g
theorem Gh.le_refl (G : Gh) : G.le G := fun _ _ h => h
theorem Gh.le_trans {A B C : Gh} (h : A.le B) (k : B.le C) : A.le C := fun b g x => k b g (h b g x)
def Gh.add (G : Gh) (b : Nat) (g : GI) : Gh := fun x => if x = b then some g else G x
theorem Gh.le_add {G : Gh} {b : Nat} {g : GI} (h : G b = none) : G.le (G.add b g) := fun x y hx => by
  unfold Gh.add
  split
  · rename_i e; subst e; rw [h] at hx; cases hx
  · exact hx

inductive VR (ρ : Env) (G : Gh) : AV → Value → Prop where
  | any (v : Value) : VR ρ G .any v
  | int (k : IntKind) (e : SE) (n : Int) : n = (e.den ρ).i → VR ρ G (.int k e) (.int k n)
  | bool (e : SE) (b : Bool) : b = (e.den ρ).b → VR ρ G (.bool e) (.bool b)
  | str (e : SE) (s : ByteArray) : s = bytesOf (e.den ρ).s → VR ρ G (.str e) (.string s)
  | nilp : VR ρ G .nilp (.pointer none)
  | ptr (b o : Nat) (g : GI) (a : Addr) : G b = some g → a = ⟨g.blk, g.off + o, none⟩ → VR ρ G (.ptr b o) (.pointer (some a))
  | elt (b s : Nat) (i : SE) (j : Nat) (g : GI) (a : Addr) : G b = some g → a = ⟨g.blk, g.off + (i.den ρ).i.toNat * s + j, none⟩ → VR ρ G (.elt b s i j) (.pointer (some a))
  | nils : VR ρ G .nils (.slice none 0 0)
  | sl (b s : Nat) (off len : SE) (cap : Option SE) (g : GI) (a : Option Addr) (n c : Nat) : G b = some g → (len.den ρ).i = n → 0 ≤ (off.den ρ).i → n ≤ c → (∀ e, cap = some e → (e.den ρ).i = c) →
      (0 < c → a = some ⟨g.blk, g.off + (off.den ρ).i.toNat * s, none⟩) → ((off.den ρ).i.toNat + c) * s ≤ g.sz → VR ρ G (.sl b s off len cap) (.slice a n c)
  | func (fn : Fn) (first cap : List AV) (vf vc : Array Value) : vf.size = first.length → vc.size = cap.length → (∀ (i : Nat) (a : AV) (v : Value), first[i]? = some a → vf[i]? = some v → VR ρ G a v) → (∀ (i : Nat) (a : AV) (v : Value), cap[i]? = some a → vc[i]? = some v → VR ρ G a v) →
      VR ρ G (.func fn first cap) (.func fn vf vc)
  | nilf : VR ρ G .nilf .nilFunc
  | iface (t : TypeId) (a : AV) (v : Value) : VR ρ G a v → VR ρ G (.iface t a) (.iface t v)
  | nili : VR ρ G .nili .nilIface
  | agg (cs : List AV) (vs : Array Value) : vs.size = cs.length → (∀ (i : Nat) (a : AV) (v : Value), cs[i]? = some a → vs[i]? = some v → VR ρ G a v) → VR ρ G (.agg cs) (.agg vs)
  | tup (cs : List AV) (vs : Array Value) : vs.size = cs.length → (∀ (i : Nat) (a : AV) (v : Value), cs[i]? = some a → vs[i]? = some v → VR ρ G a v) → VR ρ G (.tup cs) (.tuple vs)
  | map (b : Nat) (g : GI) : G b = some g → VR ρ G (.map b) (.map (some g.blk))
  | nilm : VR ρ G .nilm (.map none)

/-- Lists of values, one by one. -/
def VRs (ρ : Env) (G : Gh) (cs : List AV) (vs : Array Value) : Prop := vs.size = cs.length ∧ ∀ (i : Nat) (a : AV) (v : Value), cs[i]? = some a → vs[i]? = some v → VR ρ G a v

section
variable {ρ : Env} {G G' : Gh}
theorem VR.mono {a : AV} {v : Value} (h : VR ρ G a v) (hG : G.le G') : VR ρ G' a v := by
  induction h with
  | any v => exact .any v
  | int k e n h => exact .int k e n h
  | bool e b h => exact .bool e b h
  | str e s h => exact .str e s h
  | nilp => exact .nilp
  | ptr b o g a h h2 => exact .ptr b o g a (hG _ _ h) h2
  | elt b s i j g a h h2 => exact .elt b s i j g a (hG _ _ h) h2
  | nils => exact .nils
  | sl b s off len cap g a n c h h1 h2 h3 h4 h5 h6 => exact .sl b s off len cap g a n c (hG _ _ h) h1 h2 h3 h4 h5 h6
  | func fn first cap vf vc h1 h2 h3 h4 ih1 ih2 => exact .func fn first cap vf vc h1 h2 ih1 ih2
  | nilf => exact .nilf
  | iface t a v h ih => exact .iface t a v ih
  | nili => exact .nili
  | agg cs vs h1 h2 ih => exact .agg cs vs h1 ih
  | tup cs vs h1 h2 ih => exact .tup cs vs h1 ih
  | map b g h => exact .map b g (hG _ _ h)
  | nilm => exact .nilm
theorem VRs.mono {cs : List AV} {vs : Array Value} (h : VRs ρ G cs vs) (hG : G.le G') : VRs ρ G' cs vs := ⟨h.1, fun i a v h1 h2 => (h.2 i a v h1 h2).mono hG⟩
theorem VRs.nil : VRs ρ G [] #[] := ⟨rfl, fun i a v h => by simp at h⟩
theorem VR.int_inv {k : IntKind} {e : SE} {v : Value} (h : VR ρ G (.int k e) v) : v = .int k (e.den ρ).i := by cases h; subst_vars; rfl
theorem VR.bool_inv {e : SE} {v : Value} (h : VR ρ G (.bool e) v) : v = .bool (e.den ρ).b := by cases h; subst_vars; rfl
theorem VR.str_inv {e : SE} {v : Value} (h : VR ρ G (.str e) v) : v = .string (bytesOf (e.den ρ).s) := by cases h; subst_vars; rfl
theorem VR.ptr_inv {b o : Nat} {v : Value} (h : VR ρ G (.ptr b o) v) : ∃ g, G b = some g ∧ v = .pointer (some ⟨g.blk, g.off + o, none⟩) := by
  cases h with | ptr _ _ g a h1 h2 => exact ⟨g, h1, by rw [h2]⟩
theorem VR.elt_inv {b s : Nat} {i : SE} {j : Nat} {v : Value} (h : VR ρ G (.elt b s i j) v) : ∃ g, G b = some g ∧ v = .pointer (some ⟨g.blk, g.off + (i.den ρ).i.toNat * s + j, none⟩) := by
  cases h with | elt _ _ _ _ g a h1 h2 => exact ⟨g, h1, by rw [h2]⟩
theorem VR.agg_inv {cs : List AV} {v : Value} (h : VR ρ G (.agg cs) v) : ∃ vs, v = .agg vs ∧ VRs ρ G cs vs := by
  cases h with | agg _ vs h1 h2 => exact ⟨vs, rfl, h1, h2⟩
theorem VR.tup_inv {cs : List AV} {v : Value} (h : VR ρ G (.tup cs) v) : ∃ vs, v = .tuple vs ∧ VRs ρ G cs vs := by
  cases h with | tup _ vs h1 h2 => exact ⟨vs, rfl, h1, h2⟩
theorem VR.func_inv {fn : Fn} {f c : List AV} {v : Value} (h : VR ρ G (.func fn f c) v) : ∃ vf vc, v = .func fn vf vc ∧ VRs ρ G f vf ∧ VRs ρ G c vc := by
  cases h with | func _ _ _ vf vc h1 h2 h3 h4 => exact ⟨vf, vc, rfl, ⟨h1, h3⟩, ⟨h2, h4⟩⟩
theorem VR.iface_inv {t : TypeId} {a : AV} {v : Value} (h : VR ρ G (.iface t a) v) : ∃ u, v = .iface t u ∧ VR ρ G a u := by
  cases h with | iface _ _ u h => exact ⟨u, rfl, h⟩
theorem VR.map_inv {b : Nat} {v : Value} (h : VR ρ G (.map b) v) : ∃ g, G b = some g ∧ v = .map (some g.blk) := by
  cases h with | map _ g h => exact ⟨g, h, rfl⟩
theorem VR.sl_inv {b s : Nat} {off len : SE} {cap : Option SE} {v : Value} (h : VR ρ G (.sl b s off len cap) v) : ∃ g a n c, G b = some g ∧ v = .slice a n c ∧ (len.den ρ).i = n ∧ 0 ≤ (off.den ρ).i ∧ n ≤ c ∧ (∀ e, cap = some e → (e.den ρ).i = c) ∧
      (0 < c → a = some ⟨g.blk, g.off + (off.den ρ).i.toNat * s, none⟩) ∧ ((off.den ρ).i.toNat + c) * s ≤ g.sz := by
  cases h with | sl _ _ _ _ _ g a n c h h1 h2 h3 h4 h5 h6 => exact ⟨g, a, n, c, h, rfl, h1, h2, h3, h4, h5, h6⟩
theorem VRs.of_list {cs : List AV} {l : List Value} (h : cs.length = l.length) (hv : ∀ (i : Nat) (a : AV) (v : Value), cs[i]? = some a → l[i]? = some v → VR ρ G a v) : VRs ρ G cs l.toArray := ⟨by simp [h], fun i a v h1 h2 => hv i a v h1 (by simpa using h2)⟩
theorem VRs.get {cs : List AV} {vs : Array Value} (h : VRs ρ G cs vs) {i : Nat} {a : AV} (hi : cs[i]? = some a) : ∃ v, vs[i]? = some v ∧ VR ρ G a v := by
  have hl : i < cs.length := (List.getElem?_eq_some_iff.1 hi).1
  have hv : i < vs.size := by rw [h.1]; exact hl
  exact ⟨vs[i], by simp [hv], h.2 i a _ hi (by simp [hv])⟩
theorem VRs.append {xs ys : List AV} {vs us : Array Value} (h : VRs ρ G xs vs) (k : VRs ρ G ys us) : VRs ρ G (xs ++ ys) (vs ++ us) := by
  refine ⟨by simp [h.1, k.1], fun i a v h1 h2 => ?_⟩
  rw [List.getElem?_append] at h1
  rw [Array.getElem?_append] at h2
  split at h1
  · rename_i hlt
    rw [if_pos (by rw [h.1]; exact hlt)] at h2
    exact h.2 i a v h1 h2
  · rename_i hge
    rw [if_neg (by rw [h.1]; exact hge)] at h2
    rw [← h.1] at h1
    exact k.2 _ a v h1 h2
theorem VRs.cons {x : AV} {xs : List AV} {v : Value} {vs : List Value} (h : VR ρ G x v) (k : VRs ρ G xs vs.toArray) : VRs ρ G (x :: xs) (v :: vs).toArray := by
  have := VRs.append (xs := [x]) (vs := #[v]) ⟨rfl, fun i a u h1 h2 => by cases i <;> simp at h1 h2; subst h1 h2; exact h⟩ k
  simpa using this
end
end Go.Proofs.Ytbnbljeegghgiaa
