/- strings.Repeat is a function of data, for a string of one byte and a number that is not negative. -/
import Derived.Test.YthfiphbjdenkbaaDoorBd
import Derived.Test.YthfiphbjdenkbaaDoorOpen
import Derived.Shelf.Strings.Repeat
namespace Go.Proofs.YthfiphbjdenkbaaDoor
open Go.Shelf Go.RowKit
def rep_ren : Go.Shelf.Ren := ⟨fun | 105 => 27 | 212 => 38 | 99 => 39 | 165 => 40 | 166 => 41 | 170 => 42 | 169 => 43 | 263 => 54 | 264 => 55 | 206 => 56 | 240 => 57 | 241 => 58 | 276 => 68 | 277 => 69 | n => n, fun | 9 => 9 | 3 => 3 | 4 => 4 | 20 => 20 | 0 => 0 | 46 => 54 | 109 => 64 | 5 => 5 | 72 => 69 | 76 => 73 | 51 => 90 | 146 => 91 | 53 => 89 | 148 => 93 | 70 => 67 | 37 => 43 | 75 => 72 | 127 => 95 | 164 => 103 | 80 => 76 | n => n, fun | n => n⟩
theorem rep_lays : Lays.n105 Tryd.prog rep_ren := {
  mixed := by kernel_rfl
  f99 := Tryd.func39.trans (congrArg some (by kernel_rfl))
  f105 := Tryd.func27.trans (congrArg some (by kernel_rfl))
  f165 := Tryd.func40.trans (congrArg some (by kernel_rfl))
  f166 := Tryd.func41.trans (congrArg some (by kernel_rfl))
  f169 := Tryd.func43.trans (congrArg some (by kernel_rfl))
  f170 := Tryd.func42.trans (congrArg some (by kernel_rfl))
  f206 := Tryd.func56.trans (congrArg some (by kernel_rfl))
  f212 := Tryd.func38.trans (congrArg some (by kernel_rfl))
  f240 := Tryd.func57.trans (congrArg some (by kernel_rfl))
  f241 := Tryd.func58.trans (congrArg some (by kernel_rfl))
  f263 := Tryd.func54.trans (congrArg some (by kernel_rfl))
  f264 := Tryd.func55.trans (congrArg some (by kernel_rfl))
  f276 := Tryd.func68.trans (congrArg some (by kernel_rfl))
  f277 := Tryd.func69.trans (congrArg some (by kernel_rfl))
  t0 := Tryd.underlying0
  a0 := Tryd.isAgg0
  z0 := Tryd.sizeOf0
  v0 := Tryd.zeroValue0
  t3 := Tryd.underlying3
  a3 := Tryd.isAgg3
  z3 := Tryd.sizeOf3
  v3 := Tryd.zeroValue3
  t4 := Tryd.underlying4
  a4 := Tryd.isAgg4
  z4 := Tryd.sizeOf4
  v4 := Tryd.zeroValue4
  t5 := Tryd.underlying5
  a5 := Tryd.isAgg5
  z5 := Tryd.sizeOf5
  v5 := Tryd.zeroValue5
  t9 := Tryd.underlying9
  a9 := Tryd.isAgg9
  z9 := Tryd.sizeOf9
  v9 := Tryd.zeroValue9
  t20 := Tryd.underlying20
  a20 := Tryd.isAgg20
  z20 := Tryd.sizeOf20
  v20 := Tryd.zeroValue20
  t37 := Tryd.underlying43
  a37 := Tryd.isAgg43
  z37 := Tryd.sizeOf43
  v37 := Tryd.zeroValue43
  t46 := Tryd.underlying54
  a46 := Tryd.isAgg54
  z46 := Tryd.sizeOf54
  v46 := Tryd.zeroValue54
  t51 := Tryd.underlying90
  a51 := Tryd.isAgg90
  z51 := Tryd.sizeOf90
  v51 := Tryd.zeroValue90
  t53 := Tryd.underlying89
  a53 := Tryd.isAgg89
  z53 := Tryd.sizeOf89
  v53 := Tryd.zeroValue89
  t70 := Tryd.underlying67
  a70 := Tryd.isAgg67
  z70 := Tryd.sizeOf67
  v70 := Tryd.zeroValue67
  t72 := Tryd.underlying69
  a72 := Tryd.isAgg69
  z72 := Tryd.sizeOf69
  v72 := Tryd.zeroValue69
  t75 := Tryd.underlying72
  a75 := Tryd.isAgg72
  z75 := Tryd.sizeOf72
  v75 := Tryd.zeroValue72
  t76 := Tryd.underlying73
  a76 := Tryd.isAgg73
  z76 := Tryd.sizeOf73
  v76 := Tryd.zeroValue73
  t109 := Tryd.underlying64
  a109 := Tryd.isAgg64
  z109 := Tryd.sizeOf64
  v109 := Tryd.zeroValue64
  t127 := Tryd.underlying95
  a127 := Tryd.isAgg95
  z127 := Tryd.sizeOf95
  v127 := Tryd.zeroValue95
  t146 := Tryd.underlying91
  a146 := Tryd.isAgg91
  z146 := Tryd.sizeOf91
  v146 := Tryd.zeroValue91
  t148 := Tryd.underlying93
  a148 := Tryd.isAgg93
  z148 := Tryd.sizeOf93
  v148 := Tryd.zeroValue93
  t164 := Tryd.underlying103
  a164 := Tryd.isAgg103
  z164 := Tryd.sizeOf103
  v164 := Tryd.zeroValue103 }
theorem rep_extra : Builder.Extra Tryd.prog rep_ren := {
  sizeBuilder := by kernel_rfl
  liesBuilder := by kernel_rfl
  t5 := Tryd.underlying5
  a5 := Tryd.isAgg5
  z5 := Tryd.sizeOf5
  v5 := Tryd.zeroValue5
  infoByte := by kernel_rfl
  cellsByte := by kernel_rfl
  sizeByte := by kernel_rfl
  neB5 := by decide }

def repM (s : List UInt8) (c : Int) : List UInt8 := (List.replicate c.toNat s).flatten
def wRepE (s : List UInt8) (c : Int) : List DV := [.str (repM s c)]
def wRepF (ds : List DV) : List DV := wRepE (gs ds 0) (gi ds 1)
theorem rep_eq (s : List UInt8) : ∀ c : Nat, Lib.repeatL s c = repM s c
  | 0 => rfl
  | c + 1 => by
    have := rep_eq s c
    unfold repM at this ⊢
    rw [Int.toNat_natCast] at this ⊢
    rw [Lib.repeatL, this, List.replicate_succ, List.flatten_cons]
theorem wRep_pure : Pure Tryd.prog 27 [.one (.pl .str), .one (.pl (.int .i64))] [.one (.pl .str)] (fun ds => (fun ds => lenP [] ds ∧ rgeP [(1, 0, 1000000)] ds) ds ∧ slenP [(0, 1, 1)] ds) wRepF := by
  refine ⟨⟨_, Tryd.func27, by kernel_rfl⟩, ?_⟩
  intro w va vs ds gs hG hR hp
  obtain ⟨v0, va1, vs1, rfl, rfl, v1, va2, vs2, rfl, rfl, rfl, rfl⟩ := hG
  obtain ⟨_, _, d0, ds1, g0, gs1, e0, rfl, rfl, h0, _, _, d1, ds2, g1, gs2, e1, rfl, rfl, h1, e2, rfl, rfl⟩ := hR
  cases e0
  cases e1
  obtain ⟨⟨_, hr⟩, hs⟩ := hp
  have hr1 : 0 ≤ d1.i ∧ d1.i ≤ 1000000 := hr (1, 0, 1000000) (by simp)
  have hs1 : 1 ≤ (d0.s.length : Int) ∧ (d0.s.length : Int) ≤ 1 := hs (0, 1, 1) (by simp)
  have h0' : v0 = .string ⟨d0.s.toArray⟩ := h0
  have h1' : v1 = .int .i64 d1.i := h1
  subst h0' h1'
  obtain ⟨c, hc⟩ : ∃ c : Nat, d1.i = c := ⟨d1.i.toNat, by omega⟩
  have hsz : (⟨d0.s.toArray⟩ : ByteArray).size = d0.s.length := by show d0.s.toArray.size = _; simp
  have hl : d0.s.length = 1 := by omega
  have hcall : Calls Tryd.prog 27 #[.string ⟨d0.s.toArray⟩, .int .i64 c] w fun e w' => e = .returned (.string ⟨(Lib.repeatL (⟨d0.s.toArray⟩ : ByteArray).data.toList c).toArray⟩) ∧ Below w.heap.size w w' :=
    Any.strings_Repeat rep_lays rep_extra ⟨d0.s.toArray⟩ c w (by omega) (by rw [hsz, hl]; omega)
  rw [← hc] at hcall
  refine hcall.mono fun e w' ⟨he, hb⟩ => ?_
  have hd : (⟨d0.s.toArray⟩ : ByteArray).data.toList = d0.s := by simp
  rw [hd, rep_eq, ← hc] at he
  refine ⟨[.string ⟨(repM d0.s d1.i).toArray⟩], [.string ⟨(repM d0.s d1.i).toArray⟩], [⟨0, 0, 0⟩], he, rfl, ⟨_, _, _, rfl, rfl, rfl, rfl⟩, hb, ?_⟩
  constructor
  · rfl
  · rfl
  · intro i c v h hi hv hh
    match i with
    | 0 => cases hi; cases hv; rfl
    | i + 1 => cases hi
  · intro i ks h hi
    match i with
    | 0 => cases hi
    | i + 1 => cases hi
  · intro i ks h hi
    match i with
    | 0 => cases hi
    | i + 1 => cases hi
  · intro i j ks c hi hj hn h
    match i with
    | 0 => cases h
    | i + 1 => cases h
end Go.Proofs.YthfiphbjdenkbaaDoor
