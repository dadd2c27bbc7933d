/- Package url: plain, path. -/
import Derived.Test.YtkoobhgedoanhaaGreatDoorOrigin
import Derived.Great.BuildSlice
namespace Go.Proofs.YtkoobhgedoanhaaGreatDoor
open Go.RowKit

def plainSet : ByteArray := ⟨([97, 98, 99, 100, 101, 102, 103, 104, 105, 106, 107, 108, 109, 110, 111, 112, 113, 114, 115, 116, 117, 118, 119, 120, 121, 122, 65, 66, 67, 68, 69, 70, 71, 72, 73, 74, 75, 76, 77, 78, 79].append [80, 81, 82, 83, 84, 85, 86, 87, 88, 89, 90, 48, 49, 50, 51, 52, 53, 54, 55, 56, 57, 45, 46, 95, 126, 33, 36, 38, 39, 40, 41, 42, 43, 44, 59, 61, 58, 64, 37, 47, 63]).toArray⟩
def plainC (c : UInt8) : Bool := plainSet.data.toList.contains c
theorem plainSet_ascii : ∀ b ∈ plainSet.data.toList, b.toNat < 128 := by decide +kernel
def plainL (l : List UInt8) : Bool := l.all plainC
def pathL (l : List UInt8) : Bool := (l.head? == some 47) && plainL l
/-- a URL, its texts as lists -/
structure UrlL where
  o : OriL
  path : List UInt8
  query : List UInt8
def hostTill (l : List UInt8) : List UInt8 := l.takeWhile fun c => !([47, 63] : List UInt8).contains c
def hostRest (l : List UInt8) : List UInt8 := l.dropWhile fun c => !([47, 63] : List UInt8).contains c
def pathOf (l : List UInt8) : List UInt8 := if (cutL 63 (hostRest l)).1 = [] then [47] else (cutL 63 (hostRest l)).1
def queryOf (l : List UInt8) : List UInt8 := (cutL 63 (hostRest l)).2.1
/-- url.Parse behind the scheme -/
def parseR (sec : Bool) (l : List UInt8) : Except Nat UrlL :=
  if (placeL sec (hostTill l)).2 = false then .error 3
  else if pathL (pathOf l) = false then .error 3
  else if plainL (queryOf l) = false then .error 3
  else if 200 < (cleanL (pathOf l)).length then .error 2
  else .ok ⟨(placeL sec (hostTill l)).1, cleanL (pathOf l), queryOf l⟩
/-- url.Parse -/
def parseL (l : List UInt8) : Except Nat UrlL :=
  if 3000 < l.length then .error 4
  else match schemeL (cutL 35 l).1 with
    | none => .error 3
    | some p => parseR p.1 p.2
def UrlL.cells (u : UrlL) : List Value := [.bool u.o.secure, .string ⟨u.o.host.toArray⟩, .int .i64 u.o.port, .string ⟨u.path.toArray⟩, .string ⟨u.query.toArray⟩]
/-- what Parse answers -/
def parseV (l : List UInt8) : Value :=
  match parseL l with
  | .ok u => .tuple #[.agg u.cells.toArray, .nilIface]
  | .error n => .tuple #[.agg #[.bool false, .string ⟨#[]⟩, .int .i64 0, .string ⟨#[]⟩, .string ⟨#[]⟩], .iface 93 (.int .i64 n)]

theorem plain_any (s : ByteArray) (w : World) (hs : s.size < 100000) :
    Calls Tryz.prog 92 #[.string s] w fun e w' => e = .returned (.bool (plainL s.data.toList)) ∧ Fr noB w w' := by
  have HTR := Lib.hid (TrimSet_any s plainSet w (by omega) (by decide) (by decide) plainSet_ascii)
  cases hall : s.data.toList.all plainC
  · have hb := Lib.hid (show plainL s.data.toList = false from hall)
    have htn : Lib.trimS s.data.toList plainSet.data.toList ≠ [] := fun h => by rw [trimS_nil] at h; rw [show s.data.toList.all plainC = true from h] at hall; cases hall
    have s1 : ¬ (⟨(Lib.trimS s.data.toList plainSet.data.toList).toArray⟩ : ByteArray).toList = [] := by rw [ByteArray.toList_eq]; simpa using htn
    have s2 : (⟨(Lib.trimS s.data.toList plainSet.data.toList).toArray⟩ : ByteArray).toList.isEmpty = false := by simpa using s1
    clear htn hall
    generalize (⟨(Lib.trimS s.data.toList plainSet.data.toList).toArray⟩ : ByteArray) = z at *
    go_enter Tryz.func92, Tryz.ntmps92
    go_wp2_with fail
    refine HTR.out.mono ?_
    rintro e u ⟨rfl, hf⟩
    go_wp2
    go_ret
    exact ⟨by rw [hb.out]; rfl, hf⟩
  · have hb := Lib.hid (show plainL s.data.toList = true from hall)
    have htn : Lib.trimS s.data.toList plainSet.data.toList = [] := by rw [trimS_nil]; exact hall
    rw [htn] at HTR
    clear htn hall
    go_enter Tryz.func92, Tryz.ntmps92
    go_wp2_with fail
    refine HTR.out.mono ?_
    rintro e u ⟨rfl, hf⟩
    go_wp2
    go_ret
    exact ⟨by rw [hb.out]; rfl, hf⟩
theorem prefix47 (l : List UInt8) : Lib.hasPrefix l [47] = (l.head? == some 47) := by
  cases l with
  | nil => rfl
  | cons a l =>
    show ((47 : UInt8) == a && List.isPrefixOf [] l) = (some a == some 47)
    rw [show List.isPrefixOf [] l = true from by cases l <;> rfl, Bool.and_true]
    by_cases h : a = 47
    · subst h; rfl
    · rw [beq_eq_false_iff_ne.2 (Ne.symm h)]
      exact (beq_eq_false_iff_ne.2 (fun e => h (Option.some.inj e))).symm
theorem path_any (s : ByteArray) (w : World) (hs : s.size < 100000) :
    Calls Tryz.prog 90 #[.string s] w fun e w' => e = .returned (.bool (pathL s.data.toList)) ∧ Fr noB w w' := by
  have HPRE := Lib.hid (show Calls Tryz.prog 67 #[.string s, .string ⟨#[47]⟩] w fun e w' => e = .returned (.bool (Lib.hasPrefix s.data.toList (⟨#[47]⟩ : ByteArray).data.toList)) ∧ w = w' from (Tryz.strings_HasPrefix s ⟨#[47]⟩ w).mono fun e w' h => ⟨h.1, h.2.symm⟩)
  have HPL := Lib.hid (plain_any s w hs)
  have e := prefix47 s.data.toList
  cases hpre : Lib.hasPrefix s.data.toList [47]
  · have hb := Lib.hid (show pathL s.data.toList = false by unfold pathL; rw [← e, hpre]; rfl)
    clear e
    go_enter Tryz.func90, Tryz.ntmps90
    go_wp2_with fail
    refine HPRE.out.mono ?_
    rintro e u ⟨rfl, rfl⟩
    rw [show Lib.hasPrefix s.data.toList (⟨#[47]⟩ : ByteArray).data.toList = false from hpre]
    go_wp2
    go_ret
    exact ⟨by rw [hb.out]; rfl, Fr.refl _ _⟩
  · have hb := Lib.hid (show pathL s.data.toList = plainL s.data.toList by unfold pathL; rw [← e, hpre]; rfl)
    clear e
    go_enter Tryz.func90, Tryz.ntmps90
    go_wp2_with fail
    refine HPRE.out.mono ?_
    rintro e u ⟨rfl, rfl⟩
    rw [show Lib.hasPrefix s.data.toList (⟨#[47]⟩ : ByteArray).data.toList = true from hpre]
    go_wp2_with fail
    refine HPL.out.mono ?_
    rintro e u ⟨rfl, hf⟩
    go_wp2
    go_ret
    exact ⟨by rw [hb.out]; rfl, hf⟩

/-- the set's first byte stands where the run without it ends -/
theorem any_split (cs : List UInt8) : ∀ l : List UInt8, (Lib.indexAny l cs = -1 ∧ l.takeWhile (fun c => !cs.contains c) = l ∧ l.dropWhile (fun c => !cs.contains c) = []) ∨
    (∃ i : Nat, Lib.indexAny l cs = (i : Int) ∧ i < l.length ∧ l.takeWhile (fun c => !cs.contains c) = l.take i ∧ l.dropWhile (fun c => !cs.contains c) = l.drop i)
  | [] => Or.inl ⟨rfl, rfl, rfl⟩
  | b :: l => by
    have ih := any_split cs l
    have e : Lib.indexAny (b :: l) cs = if cs.contains b then 0 else if Lib.indexAny l cs == -1 then -1 else Lib.indexAny l cs + 1 := rfl
    cases hb : cs.contains b
    · rw [hb] at e
      simp only [Bool.false_eq_true, if_false] at e
      rcases ih with ⟨h1, h2, h3⟩ | ⟨i, h1, h2, h3, h4⟩
      · refine Or.inl ⟨by rw [e, h1]; rfl, ?_, ?_⟩
        · rw [List.takeWhile_cons, hb]; simp only [Bool.not_false, if_true]; rw [h2]
        · rw [List.dropWhile_cons, hb]; simp only [Bool.not_false, if_true]; exact h3
      · refine Or.inr ⟨i + 1, by rw [e, h1, if_neg (by simp)]; rfl, by simp; omega, ?_, ?_⟩
        · rw [List.takeWhile_cons, hb]; simp only [Bool.not_false, if_true]; rw [h3]; rfl
        · rw [List.dropWhile_cons, hb]; simp only [Bool.not_false, if_true]; rw [h4]; rfl
    · rw [hb] at e
      simp only [if_true] at e
      refine Or.inr ⟨0, e, by simp, ?_, ?_⟩
      · rw [List.takeWhile_cons, hb]; rfl
      · rw [List.dropWhile_cons, hb]; rfl
theorem parseR_1 {sec : Bool} {l : List UInt8} (h : (placeL sec (hostTill l)).2 = false) : parseR sec l = .error 3 := by unfold parseR; rw [if_pos h]
theorem parseR_2 {sec : Bool} {l : List UInt8} (h2 : pathL (pathOf l) = false) : parseR sec l = .error 3 := by
  unfold parseR
  by_cases h1 : (placeL sec (hostTill l)).2 = false
  · rw [if_pos h1]
  · rw [if_neg h1, if_pos h2]
theorem parseR_3 {sec : Bool} {l : List UInt8} (h3 : plainL (queryOf l) = false) : parseR sec l = .error 3 := by
  unfold parseR
  by_cases h1 : (placeL sec (hostTill l)).2 = false
  · rw [if_pos h1]
  · by_cases h2 : pathL (pathOf l) = false
    · rw [if_neg h1, if_pos h2]
    · rw [if_neg h1, if_neg h2, if_pos h3]
theorem parseR_4 {sec : Bool} {l : List UInt8} (h1 : (placeL sec (hostTill l)).2 = true) (h2 : pathL (pathOf l) = true) (h3 : plainL (queryOf l) = true) (h4 : 200 < (cleanL (pathOf l)).length) : parseR sec l = .error 2 := by
  unfold parseR
  rw [if_neg (by rw [h1]; simp), if_neg (by rw [h2]; simp), if_neg (by rw [h3]; simp), if_pos h4]
theorem parseR_5 {sec : Bool} {l : List UInt8} (h1 : (placeL sec (hostTill l)).2 = true) (h2 : pathL (pathOf l) = true) (h3 : plainL (queryOf l) = true) (h4 : ¬ 200 < (cleanL (pathOf l)).length) : parseR sec l = .ok ⟨(placeL sec (hostTill l)).1, cleanL (pathOf l), queryOf l⟩ := by
  unfold parseR
  rw [if_neg (by rw [h1]; simp), if_neg (by rw [h2]; simp), if_neg (by rw [h3]; simp), if_neg h4]
theorem buildUrl (a : Bool) (h p q : ByteArray) (n : Int) : Tryz.prog.built 51 [(0, .agg #[.bool a, .string h, .int .i64 n]), (1, .string p), (2, .string q)] = some #[.bool a, .string h, .int .i64 n, .string p, .string q] := by kernel_rfl
theorem wpList_buildUrl {ops : Array Oper} {rest : List Oper} {o : Oper} {a : Act} {w : World} {Q : Exit → Act → World → Prop} (hg : o.guard = none) (x0 x1 x2 : Operand)
    (ho : o.op = .build 51 #[(0, x0), (1, x1), (2, x2)]) (d : Option Tmp) (hd : o.dst = d) (b : Bool) (h p q : ByteArray) (n : Int)
    (h0 : a.eval x0 = .agg #[.bool b, .string h, .int .i64 n]) (h1 : a.eval x1 = .string p) (h2 : a.eval x2 = .string q)
    (hr : wpList Tryz.prog ops Q rest (a.put d (.agg #[.bool b, .string h, .int .i64 n, .string p, .string q])) w) : wpList Tryz.prog ops Q (o :: rest) a w := by
  refine wpList_buildTo hg 51 _ ho d hd _ ?_ hr
  simp only [List.map_toArray, List.map_cons, List.map_nil, h0, h1, h2]
  exact buildUrl _ _ _ _ _
theorem put5 {v : World} {g : Nat} {a b c d e x y z p q : Value} {t : TypeId} {f : Nat × Nat} (h : v.heap[g]? = some (.cells #[a, b, c, d, e] t f)) :
    (((((v.setCell ⟨g, 0, none⟩ x).setCell ⟨g, 1, none⟩ y).setCell ⟨g, 2, none⟩ z).setCell ⟨g, 3, none⟩ p).setCell ⟨g, 4, none⟩ q).heap[g]? = some (.cells #[x, y, z, p, q] t f) := by
  simp [World.setCell, Array.getElem?_modify, h]
end Go.Proofs.YtkoobhgedoanhaaGreatDoor
