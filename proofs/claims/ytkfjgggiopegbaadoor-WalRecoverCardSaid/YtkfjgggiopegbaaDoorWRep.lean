/- strings.Repeat is a function of data, for a string of one byte and a number that is not negative. -/
import Derived.Test.YtkfjgggiopegbaaDoorBd
import Derived.Test.YtkfjgggiopegbaaDoorOpen
import Derived.Shelf.Strings.Repeat
namespace Go.Proofs.YtkfjgggiopegbaaDoor
open Go.Shelf Go.RowKit
def rep_ren : Go.Shelf.Ren := ⟨fun | 99 => 86 | 105 => 50 | 165 => 87 | 166 => 88 | 169 => 90 | 170 => 89 | 206 => 109 | 212 => 85 | 240 => 110 | 241 => 111 | 263 => 107 | 264 => 108 | 276 => 117 | 277 => 118 | n => n, fun | 0 => 0 | 3 => 3 | 4 => 4 | 5 => 5 | 9 => 9 | 20 => 20 | 37 => 40 | 46 => 121 | 51 => 162 | 53 => 161 | 70 => 139 | 72 => 141 | 75 => 144 | 76 => 145 | 80 => 147 | 109 => 136 | 127 => 167 | 146 => 163 | 148 => 165 | 164 => 171 | n => n, fun | n => n⟩
theorem rep_lays : Lays.n105 Tryd.prog rep_ren := {
  mixed := by kernel_rfl
  f99 := Tryd.func86.trans (congrArg some (by kernel_rfl))
  f105 := Tryd.func50.trans (congrArg some (by kernel_rfl))
  f165 := Tryd.func87.trans (congrArg some (by kernel_rfl))
  f166 := Tryd.func88.trans (congrArg some (by kernel_rfl))
  f169 := Tryd.func90.trans (congrArg some (by kernel_rfl))
  f170 := Tryd.func89.trans (congrArg some (by kernel_rfl))
  f206 := Tryd.func109.trans (congrArg some (by kernel_rfl))
  f212 := Tryd.func85.trans (congrArg some (by kernel_rfl))
  f240 := Tryd.func110.trans (congrArg some (by kernel_rfl))
  f241 := Tryd.func111.trans (congrArg some (by kernel_rfl))
  f263 := Tryd.func107.trans (congrArg some (by kernel_rfl))
  f264 := Tryd.func108.trans (congrArg some (by kernel_rfl))
  f276 := Tryd.func117.trans (congrArg some (by kernel_rfl))
  f277 := Tryd.func118.trans (congrArg some (by kernel_rfl))
  t0 := Tryd.underlying0
  a0 := Tryd.isAgg0
  z0 := Tryd.sizeOf0
  v0 := Tryd.zeroValue0
  t3 := Tryd.underlying3
  a3 := Tryd.isAgg3
  z3 := Tryd.sizeOf3
  v3 := Tryd.zeroValue3
  t4 := Tryd.underlying4
  a4 := Tryd.isAgg4
  z4 := Tryd.sizeOf4
  v4 := Tryd.zeroValue4
  t5 := Tryd.underlying5
  a5 := Tryd.isAgg5
  z5 := Tryd.sizeOf5
  v5 := Tryd.zeroValue5
  t9 := Tryd.underlying9
  a9 := Tryd.isAgg9
  z9 := Tryd.sizeOf9
  v9 := Tryd.zeroValue9
  t20 := Tryd.underlying20
  a20 := Tryd.isAgg20
  z20 := Tryd.sizeOf20
  v20 := Tryd.zeroValue20
  t37 := Tryd.underlying40
  a37 := Tryd.isAgg40
  z37 := Tryd.sizeOf40
  v37 := Tryd.zeroValue40
  t46 := Tryd.underlying121
  a46 := Tryd.isAgg121
  z46 := Tryd.sizeOf121
  v46 := Tryd.zeroValue121
  t51 := Tryd.underlying162
  a51 := Tryd.isAgg162
  z51 := Tryd.sizeOf162
  v51 := Tryd.zeroValue162
  t53 := Tryd.underlying161
  a53 := Tryd.isAgg161
  z53 := Tryd.sizeOf161
  v53 := Tryd.zeroValue161
  t70 := Tryd.underlying139
  a70 := Tryd.isAgg139
  z70 := Tryd.sizeOf139
  v70 := Tryd.zeroValue139
  t72 := Tryd.underlying141
  a72 := Tryd.isAgg141
  z72 := Tryd.sizeOf141
  v72 := Tryd.zeroValue141
  t75 := Tryd.underlying144
  a75 := Tryd.isAgg144
  z75 := Tryd.sizeOf144
  v75 := Tryd.zeroValue144
  t76 := Tryd.underlying145
  a76 := Tryd.isAgg145
  z76 := Tryd.sizeOf145
  v76 := Tryd.zeroValue145
  t109 := Tryd.underlying136
  a109 := Tryd.isAgg136
  z109 := Tryd.sizeOf136
  v109 := Tryd.zeroValue136
  t127 := Tryd.underlying167
  a127 := Tryd.isAgg167
  z127 := Tryd.sizeOf167
  v127 := Tryd.zeroValue167
  t146 := Tryd.underlying163
  a146 := Tryd.isAgg163
  z146 := Tryd.sizeOf163
  v146 := Tryd.zeroValue163
  t148 := Tryd.underlying165
  a148 := Tryd.isAgg165
  z148 := Tryd.sizeOf165
  v148 := Tryd.zeroValue165
  t164 := Tryd.underlying171
  a164 := Tryd.isAgg171
  z164 := Tryd.sizeOf171
  v164 := Tryd.zeroValue171 }
theorem rep_extra : Builder.Extra Tryd.prog rep_ren := {
  sizeBuilder := by kernel_rfl
  liesBuilder := by kernel_rfl
  t5 := Tryd.underlying5
  a5 := Tryd.isAgg5
  z5 := Tryd.sizeOf5
  v5 := Tryd.zeroValue5
  infoByte := by kernel_rfl
  cellsByte := by kernel_rfl
  sizeByte := by kernel_rfl
  neB5 := by decide }

def repM (s : List UInt8) (c : Int) : List UInt8 := (List.replicate c.toNat s).flatten
def wRepE (s : List UInt8) (c : Int) : List DV := [.str (repM s c)]
def wRepF (ds : List DV) : List DV := wRepE (gs ds 0) (gi ds 1)
theorem rep_eq (s : List UInt8) : ∀ c : Nat, Lib.repeatL s c = repM s c
  | 0 => rfl
  | c + 1 => by
    have := rep_eq s c
    unfold repM at this ⊢
    rw [Int.toNat_natCast] at this ⊢
    rw [Lib.repeatL, this, List.replicate_succ, List.flatten_cons]
theorem wRep_pure : Pure Tryd.prog 50 [.one (.pl .str), .one (.pl (.int .i64))] [.one (.pl .str)] (fun ds => (fun ds => lenP [] ds ∧ rgeP [(1, 0, 1000000)] ds) ds ∧ slenP [(0, 1, 1)] ds) wRepF := by
  refine ⟨⟨_, Tryd.func50, by kernel_rfl⟩, ?_⟩
  intro w va vs ds gs hG hR hp
  obtain ⟨v0, va1, vs1, rfl, rfl, v1, va2, vs2, rfl, rfl, rfl, rfl⟩ := hG
  obtain ⟨_, _, d0, ds1, g0, gs1, e0, rfl, rfl, h0, _, _, d1, ds2, g1, gs2, e1, rfl, rfl, h1, e2, rfl, rfl⟩ := hR
  cases e0
  cases e1
  obtain ⟨⟨_, hr⟩, hs⟩ := hp
  have hr1 : 0 ≤ d1.i ∧ d1.i ≤ 1000000 := hr (1, 0, 1000000) (by simp)
  have hs1 : 1 ≤ (d0.s.length : Int) ∧ (d0.s.length : Int) ≤ 1 := hs (0, 1, 1) (by simp)
  have h0' : v0 = .string ⟨d0.s.toArray⟩ := h0
  have h1' : v1 = .int .i64 d1.i := h1
  subst h0' h1'
  obtain ⟨c, hc⟩ : ∃ c : Nat, d1.i = c := ⟨d1.i.toNat, by omega⟩
  have hsz : (⟨d0.s.toArray⟩ : ByteArray).size = d0.s.length := by show d0.s.toArray.size = _; simp
  have hl : d0.s.length = 1 := by omega
  have hcall : Calls Tryd.prog 50 #[.string ⟨d0.s.toArray⟩, .int .i64 c] w fun e w' => e = .returned (.string ⟨(Lib.repeatL (⟨d0.s.toArray⟩ : ByteArray).data.toList c).toArray⟩) ∧ Below w.heap.size w w' :=
    Any.strings_Repeat rep_lays rep_extra ⟨d0.s.toArray⟩ c w (by omega) (by rw [hsz, hl]; omega)
  rw [← hc] at hcall
  refine callsIn_x (hcall.mono fun e w' ⟨he, hb⟩ => ?_)
  have hd : (⟨d0.s.toArray⟩ : ByteArray).data.toList = d0.s := by simp
  rw [hd, rep_eq, ← hc] at he
  refine ⟨[.string ⟨(repM d0.s d1.i).toArray⟩], [.string ⟨(repM d0.s d1.i).toArray⟩], [⟨0, 0, 0, default⟩], he, rfl, ⟨_, _, _, rfl, rfl, rfl, rfl⟩, hb, ?_⟩
  constructor
  · rfl
  · rfl
  · intro i c v h hi hv hh
    match i with
    | 0 => cases hi; cases hv; rfl
    | i + 1 => cases hi
  · intro i ks h hi
    match i with
    | 0 => cases hi
    | i + 1 => cases hi
  · intro i c h k hi hs
    match i with
    | 0 => cases hi; cases hs
    | i + 1 => cases hi
  · intro i j ks c hi hj k hn h
    match i with
    | 0 => cases h
    | i + 1 => cases h
end Go.Proofs.YtkfjgggiopegbaaDoor
