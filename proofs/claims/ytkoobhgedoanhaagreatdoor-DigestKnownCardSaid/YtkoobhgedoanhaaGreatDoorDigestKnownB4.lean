/- What a challenge asks for: the plain form. No program in sight. A header that proves a request, as a text: plain laws. No program in sight. Slices of elements of k cells: read, and made by the call itself. No program in sight. Whole structs: into a new block, out of a block, in and out of a row. No program in sight. What stays as it was while the call writes into blocks of its own: slices of strings; lists side by side; rows' own blocks. Package ask: the reader: gaps, over, named. -/
import Derived.Test.YtkoobhgedoanhaaGreatDoorDigestKnownB3
import Derived.Test.YtkoobhgedoanhaaGreatDoorDigestKnownB1
import Derived.Shelf.SlicesQ.Load
import Derived.Deep.MidRow
import Derived.Test.YtkoobhgedoanhaaGreatDoorDigestKnownB2
namespace Go.Proofs.YtkoobhgedoanhaaGreatDoor
open Go.RowKit

def bA (l : Bs) : ByteArray := ⟨l.toArray⟩
theorem bA_data (l : Bs) : (bA l).data.toList = l := by unfold bA; simp
theorem bA_of (s : ByteArray) : bA s.data.toList = s := by unfold bA; simp
/-- ask.Get -/
def getP (ps : List Par) (name : Bs) : Option Bs := (ps.find? fun p => sameL p.1 name).map (·.2)
def nRealm : Bs := [114, 101, 97, 108, 109]
def nBasic : Bs := [98, 97, 115, 105, 99]
def nDigest : Bs := [100, 105, 103, 101, 115, 116]
def nAlg : Bs := [97, 108, 103, 111, 114, 105, 116, 104, 109]
def nMD5 : Bs := [77, 68, 53]
def nSHA : Bs := [83, 72, 65, 45, 50, 53, 54]
def nSess : Bs := [45, 115, 101, 115, 115]
def nNonce : Bs := [110, 111, 110, 99, 101]
def nQop : Bs := [113, 111, 112]
def nAuth : Bs := [97, 117, 116, 104]
def nInt : Bs := [97, 117, 116, 104, 45, 105, 110, 116]
def nOpaque : Bs := [111, 112, 97, 113, 117, 101]
def nStale : Bs := [115, 116, 97, 108, 101]
def nTrue : Bs := [116, 114, 117, 101]
def nDomain : Bs := [100, 111, 109, 97, 105, 110]
/-- ask.algorithm -/
def algR (s : Bs) : Option (Int × Bool) :=
  if sameL s nMD5 then some (2, false)
  else if sameL s (nMD5 ++ nSess) then some (2, true)
  else if sameL s nSHA then some (3, false)
  else if sameL s (nSHA ++ nSess) then some (3, true)
  else none
/-- the qop among the words of a list: the last one of the two counts; none: it can't be answered -/
def qopOf (l : List Bs) : Option Bs :=
  if l.any (fun w => sameL w nAuth) then some nAuth else if l.any (fun w => sameL w nInt) then some nInt else none
def qopR (q : Bs) : Option Bs :=
  match listAll q with
  | .error _ => none
  | .ok l => if 40 < l.length then none else qopOf l
def qopP (ps : List Par) : Option Bs :=
  match getP ps nQop with
  | none => some []
  | some q => qopR q
/-- the paths of a domain -/
def domR (d : Bs) : List Bs := ((splitL 32 d).filter fun p => hdB 47 p).map cleanL
/-- ask.Known -/
def knownL (x : Cha) : Option (AskOf Texts) :=
  match getP x.params nRealm with
  | none => none
  | some realm =>
    if sameL x.scheme nBasic then some ⟨1, bA realm, bA [], bA [], false, bA [], false, []⟩ else
    match algR ((getP x.params nAlg).getD nMD5) with
    | none => none
    | some (k, sess) =>
      if !sameL x.scheme nDigest then none else
      match getP x.params nNonce with
      | none => none
      | some nonce =>
        match qopP x.params with
        | none => none
        | some q => some ⟨k, bA realm, bA nonce, bA ((getP x.params nOpaque).getD []), sess, bA q, sameL ((getP x.params nStale).getD []) nTrue, (domR ((getP x.params nDomain).getD [])).map bA⟩
def noAsk : AskOf Texts := ⟨0, bA [], bA [], bA [], false, bA [], false, []⟩
/-- ask.Best -/
def bestTo (a : AskOf Texts) (x : Cha) : AskOf Texts :=
  match knownL x with
  | none => a
  | some b => if a.scheme < b.scheme then b else a
def bestL (l : List Cha) : AskOf Texts := l.foldl bestTo noAsk
theorem bestL_snoc (l : List Cha) (x : Cha) : bestL (l ++ [x]) = bestTo (bestL l) x := by simp [bestL]
end Go.Proofs.YtkoobhgedoanhaaGreatDoor

namespace Go.Proofs.YtkoobhgedoanhaaGreatDoor
open Go.RowKit

def nUser : Bs := [117, 115, 101, 114, 110, 97, 109, 101]
def nUri : Bs := [117, 114, 105]
def nResp : Bs := [114, 101, 115, 112, 111, 110, 115, 101]
def nNc : Bs := [110, 99]
def nCnonce : Bs := [99, 110, 111, 110, 99, 101]
def nDig : Bs := [68, 105, 103, 101, 115, 116]
/-- proof.name -/
def nameL (scheme : Int) (sess : Bool) : Bs := (if scheme = 3 then nSHA else nMD5) ++ (if sess then nSess else [])
/-- what a header tells -/
structure DigIn where
  scheme : Int
  realm : Bs
  nonce : Bs
  opaq : Bs
  sess : Bool
  qop : Bs
  user : Bs
  uri : Bs
  resp : Bs
  cnonce : Bs
  count : Bs
def qP (n v : Bs) : Par × Bs := ((n, v), quoteL v)
def pP (n v : Bs) : Par × Bs := ((n, v), v)
def DigIn.head (d : DigIn) : List (Par × Bs) := [qP nUser d.user, qP nRealm d.realm, qP nNonce d.nonce, qP nUri d.uri, qP nResp d.resp, pP nAlg (nameL d.scheme d.sess)]
def DigIn.two (d : DigIn) : List (Par × Bs) := if d.qop.isEmpty then [] else [pP nQop d.qop, pP nNc d.count]
def DigIn.cn (d : DigIn) : List (Par × Bs) := if !d.qop.isEmpty || d.sess then [qP nCnonce d.cnonce] else []
def DigIn.op (d : DigIn) : List (Par × Bs) := if d.opaq.isEmpty then [] else [qP nOpaque d.opaq]
def DigIn.pars (d : DigIn) : List (Par × Bs) := d.head ++ (d.two ++ (d.cn ++ d.op))
def DigIn.told (d : DigIn) : Told := (nDig, [], d.pars)
/-- all that stands between marks may stand there -/
def DigIn.fair (d : DigIn) : Bool := textL d.user && (textL d.realm && (textL d.nonce && (textL d.uri && (textL d.resp && ((!(!d.qop.isEmpty || d.sess) || textL d.cnonce) && (d.opaq.isEmpty || textL d.opaq))))))
structure DigIn.Ok (d : DigIn) : Prop where
  scheme : d.scheme = 2 ∨ d.scheme = 3
  qop : d.qop = [] ∨ d.qop = nAuth ∨ d.qop = nInt
  count : isL d.count = true
  fair : d.fair = true
theorem nameL_word (k : Int) (b : Bool) : isL (nameL k b) = true := by
  unfold nameL; split <;> cases b <;> decide
theorem DigIn.Ok.tells {d : DigIn} (h : d.Ok) : ∀ q ∈ d.pars, isL q.1.1 = true ∧ Tells q.1.2 q.2 := by
  have hf := h.fair
  unfold DigIn.fair at hf
  simp only [Bool.and_eq_true] at hf
  obtain ⟨f1, f2, f3, f4, f5, f6, f7⟩ := hf
  have hq : ∀ n v, isL n = true → textL v = true → isL (qP n v).1.1 = true ∧ Tells (qP n v).1.2 (qP n v).2 := fun n v h1 h2 => ⟨h1, Or.inr ⟨h2, rfl⟩⟩
  have hp : ∀ n v, isL n = true → isL v = true → isL (pP n v).1.1 = true ∧ Tells (pP n v).1.2 (pP n v).2 := fun n v h1 h2 => ⟨h1, Or.inl ⟨h2, rfl⟩⟩
  intro q hq'
  unfold DigIn.pars at hq'
  rcases List.mem_append.1 hq' with g | g
  · unfold DigIn.head at g
    simp only [List.mem_cons, List.not_mem_nil, or_false] at g
    rcases g with rfl | rfl | rfl | rfl | rfl | rfl
    · exact hq _ _ (by decide) f1
    · exact hq _ _ (by decide) f2
    · exact hq _ _ (by decide) f3
    · exact hq _ _ (by decide) f4
    · exact hq _ _ (by decide) f5
    · exact hp _ _ (by decide) (nameL_word _ _)
  rcases List.mem_append.1 g with g | g
  · unfold DigIn.two at g
    split at g
    · cases g
    · rename_i hne
      simp only [List.mem_cons, List.not_mem_nil, or_false] at g
      rcases g with rfl | rfl
      · refine hp _ _ (by decide) ?_
        rcases h.qop with e | e | e
        · rw [e] at hne; exact absurd rfl hne
        · rw [e]; decide
        · rw [e]; decide
      · exact hp _ _ (by decide) h.count
  rcases List.mem_append.1 g with g | g
  · unfold DigIn.cn at g
    split at g
    · rename_i hc
      simp only [List.mem_cons, List.not_mem_nil, or_false] at g
      subst g
      rw [hc] at f6
      exact hq _ _ (by decide) (by simpa using f6)
    · cases g
  · unfold DigIn.op at g
    split at g
    · cases g
    · rename_i hc
      simp only [List.mem_cons, List.not_mem_nil, or_false] at g
      subst g
      exact hq _ _ (by decide) (by simpa [hc] using f7)
theorem DigIn.fresh (d : DigIn) : Fresh [] d.pars := by
  unfold DigIn.pars DigIn.head DigIn.two DigIn.cn DigIn.op
  cases d.qop.isEmpty <;> cases d.sess <;> cases d.opaq.isEmpty <;> simp only [Bool.not_true, Bool.not_false, Bool.true_or, Bool.false_or, Bool.false_eq_true, if_true, if_false, List.nil_append, List.append_nil, List.cons_append, Fresh, twiceB, qP, pP, List.any_cons, List.any_nil, Bool.or_false] <;> decide
theorem DigIn.few (d : DigIn) : d.pars.length ≤ 16 := by
  unfold DigIn.pars DigIn.head DigIn.two DigIn.cn DigIn.op
  simp only [List.length_append]
  split <;> split <;> split <;> simp
theorem DigIn.Ok.told {d : DigIn} (h : d.Ok) : d.told.Ok := ⟨show isL nDig = true by decide, Or.inl rfl, d.few, h.tells, d.fresh⟩
def DigIn.cha (d : DigIn) : Cha := ⟨nDig, [], d.pars.map (·.1)⟩
def DigIn.text (d : DigIn) : Bs := nDig ++ 32 :: parsT d.pars
theorem DigIn.text_told (d : DigIn) : toldsT [d.told] = d.text := by
  show chaT nDig [] d.pars = _
  unfold chaT DigIn.text
  have : d.pars.isEmpty = false := by unfold DigIn.pars DigIn.head; rfl
  rw [this]; rfl
theorem parse_digest {d : DigIn} (h : d.Ok) (hl : d.text.length ≤ 3000) : chasL d.text = .ok [d.cha] := by
  rw [← d.text_told] at hl ⊢
  rw [chasL_told [d.told] (fun x hx => by simp at hx; subst hx; exact h.told) (by simp) hl]
  rfl
/-- what is asked for is told -/
theorem DigIn.get (d : DigIn) : getP d.cha.params nUser = some d.user ∧ getP d.cha.params nRealm = some d.realm ∧ getP d.cha.params nNonce = some d.nonce ∧ getP d.cha.params nUri = some d.uri ∧ getP d.cha.params nResp = some d.resp ∧ getP d.cha.params nAlg = some (nameL d.scheme d.sess) ∧
    getP d.cha.params nQop = (if d.qop.isEmpty then none else some d.qop) ∧ getP d.cha.params nNc = (if d.qop.isEmpty then none else some d.count) ∧ getP d.cha.params nCnonce = (if !d.qop.isEmpty || d.sess then some d.cnonce else none) ∧
    getP d.cha.params nOpaque = (if d.opaq.isEmpty then none else some d.opaq) ∧ getP d.cha.params nStale = none ∧ getP d.cha.params nDomain = none := by
  have e : d.cha.params = d.pars.map (·.1) := rfl
  rw [e]
  unfold DigIn.pars DigIn.head DigIn.two DigIn.cn DigIn.op
  have hs : ∀ a b : Bs, sameL a b = (lowL a == lowL b) := fun _ _ => rfl
  cases d.qop.isEmpty <;> cases d.sess <;> cases d.opaq.isEmpty <;> (refine ⟨?_, ?_, ?_, ?_, ?_, ?_, ?_, ?_, ?_, ?_, ?_, ?_⟩ <;> rfl)
theorem algR_name {k : Int} (b : Bool) (h : k = 2 ∨ k = 3) : algR (nameL k b) = some (k, b) := by
  rcases h with rfl | rfl <;> cases b <;> decide
theorem qopR_auth : qopR nAuth = some nAuth := by decide +kernel
theorem qopR_int : qopR nInt = some nInt := by decide +kernel
theorem domR_nil : domR [] = [] := by decide +kernel
theorem known_digest {d : DigIn} (h : d.Ok) : knownL d.cha = some ⟨d.scheme, bA d.realm, bA d.nonce, bA d.opaq, d.sess, bA d.qop, false, []⟩ := by
  obtain ⟨g1, g2, g3, g4, g5, g6, g7, g8, g9, g10, g11, g12⟩ := d.get
  have hb : sameL d.cha.scheme nBasic = false := by show sameL nDig nBasic = false; decide
  have hd : sameL d.cha.scheme nDigest = true := by show sameL nDig nDigest = true; decide
  have hst : sameL ([] : Bs) nTrue = false := by decide
  have hq : qopP d.cha.params = some d.qop := by
    unfold qopP
    rw [g7]
    rcases h.qop with e | e | e
    · rw [e]; rfl
    · rw [e]; exact qopR_auth
    · rw [e]; exact qopR_int
  have ho : (getP d.cha.params nOpaque).getD [] = d.opaq := by
    rw [g10]
    cases hh : d.opaq with
    | nil => rfl
    | cons c t => rfl
  unfold knownL
  rw [g2, hb, g6]
  simp only [Option.getD_some, algR_name d.sess h.scheme, hd, g3, hq, ho, g11, g12, Option.getD_none, hst, domR_nil, List.map_nil, Bool.false_eq_true, if_false, Bool.not_true]
end Go.Proofs.YtkoobhgedoanhaaGreatDoor

namespace Go.Proofs.YtkoobhgedoanhaaGreatDoor
open Go.RowKit

/-- v reads as the elements xs, each of k cells -/
def RowsAt (k : Nat) (w : World) (v : Value) (xs : List (List Value)) : Prop :=
  (∀ x ∈ xs, x.length = k ∧ ∀ u ∈ x, u.oneCell' = true) ∧
  ((∃ a c, v = .slice a 0 c ∧ xs = [] ∧ (a = none → c = 0)) ∨
   ∃ bk o c, v = .slice (some ⟨bk, o, none⟩) xs.length c ∧ xs.length ≤ c ∧ c ≤ maxLen ∧ bk < w.heap.size ∧
     ∀ (j : Nat) x, xs[j]? = some x → ∀ (i : Nat) u, x[i]? = some u → w.cell? ⟨bk, o + j * k + i, none⟩ = some u)
section
variable {k : Nat} {w w' : World} {v : Value} {xs : List (List Value)}
theorem RowsAt.nil (k : Nat) (w : World) : RowsAt k w (.slice none 0 0) [] := ⟨by simp, Or.inl ⟨_, _, rfl, rfl, fun _ => rfl⟩⟩
theorem RowsAt.form (h : RowsAt k w v xs) : ∃ a c, v = .slice a xs.length c := by
  rcases h.2 with ⟨a, c, hv, hs, _⟩ | ⟨bk, o, c, hv, _⟩
  · exact ⟨a, c, by rw [hv, hs]; rfl⟩
  · exact ⟨_, _, hv⟩
theorem RowsAt.fr {S : Nat → Prop} (h : RowsAt k w v xs) (hf : Fr S w w') (hn : ∀ b, v.ownBlock = some b → ¬ S b) : RowsAt k w' v xs := by
  refine ⟨h.1, ?_⟩
  rcases h.2 with h | ⟨bk, o, c, hv, h1, h2, h3, h4⟩
  · exact Or.inl h
  · refine Or.inr ⟨bk, o, c, hv, h1, h2, Nat.lt_of_lt_of_le h3 hf.size, fun j x hj i u hi => ?_⟩
    rw [hf.cell (p := ⟨bk, o + j * k + i, none⟩) h3 (hn bk (by rw [hv]; rfl))]
    exact h4 j x hj i u hi
theorem RowsAt.frNone (h : RowsAt k w v xs) (hf : Fr noB w w') : RowsAt k w' v xs := h.fr hf (fun _ _ h => h)
end

/-- the cells of one element, loaded at once -/
theorem load_cells {P : Program} {w : World} {b o k : Nat} {x : List Value} (hk : x.length = k) (h : ∀ (i : Nat) u, x[i]? = some u → w.cell? ⟨b, o + i, none⟩ = some u) :
    Sem.run P (loadCellsFrom ⟨b, o, none⟩ 0 k #[]) w = .ok x.toArray w :=
  run_loadCellsFrom_list P w ⟨b, o, none⟩ x k hk (fun j v hj => by
    have ea : (Addr.add ⟨b, o, none⟩ j) = ⟨b, o + j, none⟩ := by unfold Addr.add; split <;> simp_all
    rw [ea]; exact h j v hj)

/-- v is a slice of the call's own (blocks from base on, elements of type e, k cells each) that holds xs -/
def OwnRows (base : Nat) (e : TypeId) (k : Nat) (w : World) (v : Value) (xs : List (List Value)) : Prop :=
  (∀ x ∈ xs, x.length = k ∧ ∀ u ∈ x, u.oneCell' = true) ∧ w.ownsRow base e k v xs.length xs.flatten
theorem flatten_at : ∀ {k : Nat} {xs : List (List Value)} (_ : ∀ x ∈ xs, x.length = k) {j : Nat} {x : List Value} (_ : xs[j]? = some x) {i : Nat} {u : Value} (_ : x[i]? = some u), xs.flatten[j * k + i]? = some u
  | k, [], _, j, x, hj, i, u, hi => by simp at hj
  | k, y :: ys, hl, 0, x, hj, i, u, hi => by
    simp at hj; subst hj
    have := (List.getElem?_eq_some_iff.1 hi).1
    simp only [List.flatten_cons, Nat.zero_mul, Nat.zero_add]
    rw [List.getElem?_append_left this]; exact hi
  | k, y :: ys, hl, j + 1, x, hj, i, u, hi => by
    have hy := hl y (by simp)
    have ih := flatten_at (k := k) (xs := ys) (fun z hz => hl z (List.mem_cons_of_mem _ hz)) (j := j) (by simpa using hj) hi
    simp only [List.flatten_cons]
    rw [List.getElem?_append_right (by rw [hy, Nat.succ_mul]; omega), hy, show (j + 1) * k + i - k = j * k + i from by rw [Nat.succ_mul]; omega]
    exact ih
theorem flatten_len : ∀ {k : Nat} {xs : List (List Value)} (_ : ∀ x ∈ xs, x.length = k), xs.flatten.length = xs.length * k
  | k, [], _ => by simp
  | k, y :: ys, hl => by
    have := flatten_len (k := k) (xs := ys) (fun z hz => hl z (List.mem_cons_of_mem _ hz))
    simp only [List.flatten_cons, List.length_append, this, hl y (by simp), List.length_cons, Nat.succ_mul]; omega
section
variable {base k : Nat} {e : TypeId} {w w' : World} {v : Value} {xs : List (List Value)}
theorem OwnRows.nil (base : Nat) (e : TypeId) (k : Nat) (w : World) : OwnRows base e k w (.slice none 0 0) [] := ⟨by simp, World.ownsRow_nil _ _ _ _⟩
theorem OwnRows.alloc (h : OwnRows base e k w v xs) (o : Obj) : OwnRows base e k (w.alloc o) v xs := ⟨h.1, World.ownsRow.alloc h.2 o⟩
theorem OwnRows.drewN {n : Nat} (h : OwnRows base e k w v xs) : OwnRows base e k (w.drewN n) v xs := h
theorem OwnRows.drew (h : OwnRows base e k w v xs) : OwnRows base e k w.drew v xs := h
theorem OwnRows.form (h : OwnRows base e k w v xs) : ∃ a c, v = .slice a xs.length c := by
  rcases h.2.2 with ⟨hv, hn⟩ | ⟨g, cap, cur, hv, _⟩
  · exact ⟨none, 0, by rw [hv, hn]⟩
  · exact ⟨_, _, hv⟩
theorem OwnRows.up {b' : Nat} (h : OwnRows b' e k w v xs) (hb : base ≤ b') : OwnRows base e k w v xs := by
  obtain ⟨h0, h1, h2⟩ := h
  refine ⟨h0, h1, ?_⟩
  rcases h2 with h2 | ⟨g, cap, cur, hv, hg, r⟩
  · exact Or.inl h2
  · exact Or.inr ⟨g, cap, cur, hv, Nat.le_trans hb hg, r⟩
theorem OwnRows.fr {S : Nat → Prop} (h : OwnRows base e k w v xs) (hf : Fr S w w') (hn : ∀ b, v.ownBlock = some b → ¬ S b) : OwnRows base e k w' v xs := by
  obtain ⟨h0, h1, h2⟩ := h
  refine ⟨h0, h1, ?_⟩
  rcases h2 with h2 | ⟨g, cap, cur, hv, hg, hh, r⟩
  · exact Or.inl h2
  · exact Or.inr ⟨g, cap, cur, hv, hg, hf.keep hh (hn g (by rw [hv]; rfl)), r⟩
theorem OwnRows.block (h : OwnRows base e k w v xs) : ∀ b, v.ownBlock = some b → base ≤ b := by
  intro b hb
  rcases h.2.2 with ⟨hv, _⟩ | ⟨g, cap, cur, hv, hg, _⟩
  · rw [hv] at hb; simp [Value.ownBlock] at hb
  · rw [hv] at hb; simp [Value.ownBlock] at hb; omega
theorem OwnRows.lt (h : OwnRows base e k w v xs) : ∀ b, v.ownBlock = some b → b < w.heap.size := by
  intro b hb
  rcases h.2.2 with ⟨hv, _⟩ | ⟨g, cap, cur, hv, hg, hh, _⟩
  · rw [hv] at hb; simp [Value.ownBlock] at hb
  · rw [hv] at hb; simp [Value.ownBlock] at hb; subst hb; exact lt_of_some hh
theorem OwnRows.at (h : OwnRows base e k w v xs) : RowsAt k w v xs := by
  obtain ⟨h0, h1, h2⟩ := h
  refine ⟨h0, ?_⟩
  rcases h2 with ⟨hv, hn⟩ | ⟨g, cap, cur, hv, hg, hh, h3, h4, h5, h6⟩
  · exact Or.inl ⟨none, 0, hv, List.eq_nil_of_length_eq_zero hn, fun _ => rfl⟩
  · refine Or.inr ⟨g, 0, cap, hv, h3, h4, lt_of_some hh, fun j x hj i u hi => ?_⟩
    have hlx := h0 x (List.mem_of_getElem? hj)
    have hji : j * k + i < xs.length * k := by
      have hj' := (List.getElem?_eq_some_iff.1 hj).1
      have hi' := (List.getElem?_eq_some_iff.1 hi).1
      have : (j + 1) * k ≤ xs.length * k := Nat.mul_le_mul_right _ hj'
      rw [Nat.succ_mul] at this; omega
    have e1 : (cur.toList.take (xs.length * k))[j * k + i]? = some u := by rw [h6]; exact flatten_at (fun z hz => (h0 z hz).1) hj hi
    rw [List.getElem?_take_of_lt hji] at e1
    have e2 : cur[j * k + i]? = some u := by simpa using e1
    simp [World.cell?, hh, e2]
end

/-- l = append(l, x): one element of k cells -/
theorem wpList_row {P : Program} {ops : Array Oper} {rest : List Oper} {o : Oper} {a : Act} {Q : Exit → Act → World → Prop} {w : World} (hgd : o.guard = none) (s x : Operand) (t e : TypeId)
    (ho : o.op = .call { callee := .builtin .append, args := #[s, x], argTypes := #[t, t] }) (k bytes : Nat) (z : Value) (ht : P.underlying t = some (.slice e))
    (hinf : (P.info? e).map (fun i => (i.zero, i.size, i.bytes)) = some (some z, k, bytes)) (hz : z.cells.size = k) (hk : 0 < k) (hb : bytes ≤ 1024)
    (base : Nat) (v : Value) (l : List (List Value)) (hs : a.eval s = v) (hown : OwnRows base e k w v l)
    (ad : Nat) (c : Nat) (y : List Value) (hx : a.eval x = .slice (some ⟨ad, 0, none⟩) 1 c) (hyk : y.length = k) (hy1 : ∀ u ∈ y, u.oneCell' = true) (hy : ∀ (i : Nat) u, y[i]? = some u → w.cell? ⟨ad, i, none⟩ = some u)
    (hlen : l.length < 68719476736) (hbase : base ≤ w.heap.size)
    (h : ∀ v' w', OwnRows base e k w' v' (l ++ [y]) → w.grownBy w' v.ownBlock → wpList P ops Q rest (a.put o.dst v') w') : wpList P ops Q (o :: rest) a w := by
  obtain ⟨i0, hi, hz0, hz1, hz2⟩ := info_parts hinf
  refine wpList_append_own w hgd s x t ho base e i0 z k bytes ht hi hz0 hz1 hz2 hz hk v l.length l.flatten hs hown.2 ⟨ad, 0, none⟩ 1 c y hx (by rw [hyk, Nat.one_mul]) ?_ hy1 ?_ ?_ hbase ?_
  · intro j u hj
    have ea : (Addr.add ⟨ad, 0, none⟩ j) = ⟨ad, j, none⟩ := by unfold Addr.add; split <;> simp_all
    rw [ea]; exact hy j u hj
  · unfold maxLen; omega
  · have : (l.length + 1) * bytes ≤ 68719476736 * 1024 := Nat.mul_le_mul (by omega) hb
    omega
  · intro v' w' h1 h2 _
    refine h v' w' ⟨?_, ?_⟩ h2
    · intro q hq
      rcases List.mem_append.1 hq with g | g
      · exact hown.1 q g
      · simp at g; subst g; exact ⟨hyk, hy1⟩
    · simpa using h1
end Go.Proofs.YtkoobhgedoanhaaGreatDoor

namespace Go.Proofs.YtkoobhgedoanhaaGreatDoor
open Go.RowKit

/-- stands at the operation o, or fails at once -/
theorem wpList_at {P : Program} {ops : Array Oper} {rest : List Oper} {a : Act} {w : World} {Q : Exit → Act → World → Prop} (o : Oper) (h : wpList P ops Q (o :: rest) a w) : wpList P ops Q (o :: rest) a w := h
/-- the same, in a region that draws its order -/
theorem step_at {P : Program} {ops : Array Oper} {a : Act} {w : World} {K : Act → World → Prop} {Q : Exit → Act → World → Prop} {E : Prop} (o : Oper) (h : if Region.wanted o (yielded ops a.tmps) = true then Oper.wp P o a w K Q else E) : if Region.wanted o (yielded ops a.tmps) = true then Oper.wp P o a w K Q else E := h
/-- a call of a Go function by its contract, in a region that draws its order -/
theorem step_call {P : Program} {ops : Array Oper} {a : Act} {w : World} {K : Act → World → Prop} {Q : Exit → Act → World → Prop} {E : Prop} {o : Oper} (hgd : o.guard = none) (f : FuncId) (args : Array Value) (hrun : (execOp a.eval o).run P w = .ok (.enter f args) w) {Post : Ending → World → Prop} (hc : Calls P f args w Post)
    (h : ∀ e w', Post e w' → ∃ v, e = .returned v ∧ K (a.put o.dst v) w') : if Region.wanted o (yielded ops a.tmps) = true then Oper.wp P o a w K Q else E := by
  have hw : Region.wanted o (yielded ops a.tmps) = true := by simp [Region.wanted, hgd]
  rw [if_pos hw]
  unfold Oper.wp
  rw [hrun, Oper.upon_enter]
  refine hc.mono fun e w' hh => ?_
  obtain ⟨v, rfl, hk⟩ := h e w' hh
  exact hk
theorem setRow_alloc (w : World) (old cells : Array Value) (t : TypeId) : (w.alloc (.cells old t)).setRow w.heap.size cells = w.alloc (.cells cells t) := by
  unfold World.setRow World.alloc
  congr 1
  apply Array.ext
  · simp
  · intro k h1 h2
    simp only [Array.getElem_modify]
    by_cases hk : w.heap.size = k
    · subst hk; simp
    · have : k < w.heap.size := by simp at h2; omega
      simp [hk, Array.getElem_push, this]
/-- x := a struct's value, x's block just laid -/
theorem wpList_store_new {P : Program} {ops : Array Oper} {rest : List Oper} {o : Oper} {a : Act} {w : World} {Q : Exit → Act → World → Prop} (hgd : o.guard = none) (ty : TypeId) (x y : Operand) (ho : o.op = .store ty x y) (old : Array Value)
    (cells : Array Value) (hx : a.eval x = .pointer (some ⟨w.heap.size, 0, none⟩)) (hy : a.eval y = .agg cells)
    (hi : (P.info? ty).map (·.size) = some cells.size) (hold : old.size = cells.size) (h1 : cells.all (·.oneCell') = true)
    (h : wpList P ops Q rest (a.put o.dst undef) (w.alloc (.cells cells ty))) : wpList P ops Q (o :: rest) a (w.alloc (.cells old ty)) := by
  refine wpList_store_row hgd ty x y ho w.heap.size cells hx hy ty old (new_block w _) hi hold h1 ?_
  rw [setRow_alloc]
  exact h
/-- .. as the walk meets it -/
theorem run_storeCells_new {P : Program} (w : World) (t : TypeId) (old : Array Value) (x : List Value) (hold : old.size = x.length) (h1 : ∀ u ∈ x, u.oneCell' = true) :
    Sem.run P (storeCells ⟨w.heap.size, 0, none⟩ x 0) (w.alloc (.cells old t)) = .ok () (w.alloc (.cells x.toArray t)) := by
  have h := run_storeCells_from (P := P) w.heap.size t x 0 old (w.alloc (.cells old t)) (new_block w _) (by omega) h1
  rw [h, List.take_zero, List.nil_append, setRow_alloc]
theorem one_all {k : Nat} {xs : List (List Value)} (h : ∀ x ∈ xs, x.length = k ∧ ∀ u ∈ x, u.oneCell' = true) {x : List Value} (hx : x ∈ xs) : x.toArray.all (·.oneCell') = true := all_oneCell_toArray (h x hx).2

theorem setCell_heap {w : World} {b : Nat} {cur : Array Value} {t : TypeId} {f : Nat × Nat} (h : w.heap[b]? = some (.cells cur t f)) (o : Nat) (v : Value) : (w.setCell ⟨b, o, none⟩ v).heap[b]? = some (.cells (cur.setIfInBounds o v) t f) := by
  simp [World.setCell, Array.getElem?_modify, h]
theorem setCell_other {w : World} {b g : Nat} (hg : g ≠ b) (o : Nat) (v : Value) : (w.setCell ⟨b, o, none⟩ v).heap[g]? = w.heap[g]? := Below.heap_setCell _ _ _ _ hg
theorem setCells_size (b : Nat) : ∀ (vs : List Value) (o : Nat) (w : World), (w.setCells b o vs).heap.size = w.heap.size
  | [], _, _ => rfl
  | v :: r, o, w => by rw [World.setCells, setCells_size b r]; simp [World.setCell]
theorem setCells_other {b g : Nat} (hg : g ≠ b) : ∀ (vs : List Value) (o : Nat) (w : World), (w.setCells b o vs).heap[g]? = w.heap[g]?
  | [], _, _ => rfl
  | v :: r, o, w => by rw [World.setCells, setCells_other hg r, setCell_other hg]
theorem setCells_heap {b : Nat} {t : TypeId} {f : Nat × Nat} : ∀ (vs : List Value) (o : Nat) (w : World) (cur : Array Value), w.heap[b]? = some (.cells cur t f) → o + vs.length ≤ cur.size →
    (w.setCells b o vs).heap[b]? = some (.cells (cur.toList.take o ++ vs ++ cur.toList.drop (o + vs.length)).toArray t f)
  | [], o, w, cur, h, hl => by
    rw [World.setCells, h]
    simp
  | v :: r, o, w, cur, h, hl => by
    simp only [List.length_cons] at hl
    rw [World.setCells, setCells_heap r (o + 1) _ _ (setCell_heap h o v) (by simp; omega)]
    congr 3
    simp only [Array.toList_setIfInBounds, List.length_cons]
    have h1 : (cur.toList.set o v).take (o + 1) = cur.toList.take o ++ [v] := by
      have hlt : o < cur.toList.length := by simp; omega
      rw [List.take_add_one, List.getElem?_set_self hlt, List.take_set_of_le (Nat.le_refl o)]
      rfl
    have h2 : (cur.toList.set o v).drop (o + 1 + r.length) = cur.toList.drop (o + (r.length + 1)) := by
      rw [List.drop_set_of_lt (by omega)]
      congr 1; omega
    rw [h1, h2]
    simp
theorem Fr.setCells {S : Nat → Prop} {a w : World} (h : Fr S a w) {b : Nat} (hb : b < a.heap.size → S b) : ∀ (vs : List Value) (o : Nat), Fr S a (w.setCells b o vs) := by
  intro vs
  induction vs generalizing w with
  | nil => intro o; exact h
  | cons v r ih => intro o; exact ih (h.setCell (p := ⟨b, o, none⟩) hb v) (o + 1)
/-- what a slice literal of one struct lays -/
theorem fold_zip_from : ∀ (y : List Value) (i : Nat) (z : Array Value), i + y.length ≤ z.size → List.foldl (fun cs x => cs.setIfInBounds x.snd x.fst) z (y.zipIdx i) = (z.toList.take i ++ y ++ z.toList.drop (i + y.length)).toArray
  | [], i, z, _ => by simp
  | v :: r, i, z, hl => by
    simp only [List.length_cons] at hl
    rw [List.zipIdx_cons, List.foldl_cons, fold_zip_from r (i + 1) _ (by simp; omega)]
    congr 1
    simp only [Array.toList_setIfInBounds, List.length_cons]
    have h1 : (z.toList.set i v).take (i + 1) = z.toList.take i ++ [v] := by
      have hlt : i < z.toList.length := by simp; omega
      rw [List.take_add_one, List.getElem?_set_self hlt, List.take_set_of_le (Nat.le_refl i)]
      rfl
    have h2 : (z.toList.set i v).drop (i + 1 + r.length) = z.toList.drop (i + (r.length + 1)) := by
      rw [List.drop_set_of_lt (by omega)]
      congr 1; omega
    rw [h1, h2]
    simp
theorem fold_zip (y : List Value) (z : Array Value) (h : z.size = y.length) : List.foldl (fun cs x => cs.setIfInBounds x.snd x.fst) z y.zipIdx = y.toArray := by
  rw [fold_zip_from y 0 z (by omega), List.take_zero, List.nil_append, List.drop_eq_nil_of_le (by simp; omega), List.append_nil]
theorem flatten_set {k : Nat} : ∀ {xs : List (List Value)} (_ : ∀ x ∈ xs, x.length = k) {i : Nat} {y : List Value} (_ : i < xs.length), (xs.set i y).flatten = xs.flatten.take (i * k) ++ y ++ xs.flatten.drop (i * k + k)
  | [], _, i, y, hi => absurd hi (Nat.not_lt_zero _)
  | x :: xs, hl, 0, y, hi => by
    have hx := hl x (by simp)
    simp only [List.set_cons_zero, List.flatten_cons, Nat.zero_mul, List.take_zero, List.nil_append, Nat.zero_add]
    rw [List.drop_append_of_le_length (by omega), List.drop_eq_nil_of_le (by omega)]
    simp
  | x :: xs, hl, i + 1, y, hi => by
    have hx := hl x (by simp)
    have ih := flatten_set (k := k) (xs := xs) (fun z hz => hl z (List.mem_cons_of_mem _ hz)) (i := i) (y := y) (by simpa using hi)
    have e1 : (i + 1) * k = x.length + i * k := by rw [Nat.succ_mul, hx]; omega
    simp only [List.set_cons_succ, List.flatten_cons, ih, e1]
    rw [List.take_length_add_append, show x.length + i * k + k = x.length + (i * k + k) from by omega, List.drop_length_add_append]
    simp
theorem flatten_take {k : Nat} : ∀ {xs : List (List Value)} (_ : ∀ x ∈ xs, x.length = k) (i : Nat), (xs.take i).flatten = xs.flatten.take (i * k)
  | [], _, i => by simp
  | x :: xs, hl, 0 => by simp
  | x :: xs, hl, i + 1 => by
    have hx := hl x (by simp)
    have ih := flatten_take (k := k) (xs := xs) (fun z hz => hl z (List.mem_cons_of_mem _ hz)) i
    rw [List.take_succ_cons, List.flatten_cons, ih, List.flatten_cons, show (i + 1) * k = x.length + i * k from by rw [Nat.succ_mul, hx]; omega, List.take_length_add_append]
theorem splice_take (L : List Value) (a n : Nat) (y : List Value) (ham : a + y.length ≤ n) (hn : n ≤ L.length) : (L.take a ++ y ++ L.drop (a + y.length)).take n = (L.take n).take a ++ y ++ (L.take n).drop (a + y.length) := by
  have hA : (L.take a ++ y).length = a + y.length := by rw [List.length_append, List.length_take]; omega
  rw [List.take_append, List.take_of_length_le (by omega), hA, List.take_take, Nat.min_eq_left (by omega), List.drop_take]
theorem splice_take2 (L : List Value) (a : Nat) (y : List Value) (ham : a + y.length ≤ L.length) : (L.take a ++ y ++ L.drop (a + y.length)).take (a + y.length) = L.take a ++ y := by
  have hA : (L.take a ++ y).length = a + y.length := by rw [List.length_append, List.length_take]; omega
  rw [List.take_append_of_le_length (by omega), List.take_of_length_le (by omega)]
/-- rows of the call's own that lie in a block: it, whole -/
theorem OwnRows.open {base k : Nat} {e : TypeId} {w : World} {v : Value} {xs : List (List Value)} (h : OwnRows base e k w v xs) {g : Nat} (hg : v.ownBlock = some g) :
    ∃ cap cur, v = .slice (some ⟨g, 0, none⟩) xs.length cap ∧ base ≤ g ∧ w.heap[g]? = some (.cells cur e (0, 0)) ∧ xs.length ≤ cap ∧ cap ≤ maxLen ∧ cur.size = cap * k ∧ cur.toList.take (xs.length * k) = xs.flatten := by
  rcases h.2.2 with ⟨hv, _⟩ | ⟨g', cap, cur, hv, h1, h2, h3, h4, h5, h6⟩
  · rw [hv] at hg; simp [Value.ownBlock] at hg
  · rw [hv] at hg; simp [Value.ownBlock] at hg; subst hg
    exact ⟨cap, cur, hv, h1, h2, h3, h4, h5, h6⟩
/-- l[i] = y, in rows of the call's own -/
theorem OwnRows.store {base k : Nat} {e : TypeId} {w : World} {v : Value} {xs : List (List Value)} (h : OwnRows base e k w v xs) {i : Nat} {y : List Value} (hi : i < xs.length) (hy : y.length = k) (hy1 : ∀ u ∈ y, u.oneCell' = true) {g : Nat} (hg : v.ownBlock = some g) :
    OwnRows base e k (w.setCells g (i * k) y) v (xs.set i y) := by
  obtain ⟨cap, cur, hv, h1, h2, h3, h4, h5, h6⟩ := h.open hg
  have hik : i * k + k ≤ xs.length * k := by have : (i + 1) * k ≤ xs.length * k := Nat.mul_le_mul_right _ hi; rw [Nat.succ_mul] at this; exact this
  have hck : xs.length * k ≤ cap * k := Nat.mul_le_mul_right _ h3
  have hxs : ∀ x ∈ xs, x.length = k := fun x hx => (h.1 x hx).1
  have hh := setCells_heap y (i * k) w cur h2 (by omega)
  have hA : (cur.toList.take (i * k)).length = i * k := by rw [List.length_take]; simp; omega
  have hflat : (xs.set i y).flatten = (cur.toList.take (i * k) ++ y ++ cur.toList.drop (i * k + y.length)).take (xs.length * k) := by
    rw [flatten_set hxs hi, ← h6, splice_take _ _ _ _ (by omega) (by simp; omega), hy]
  refine ⟨?_, ?_, Or.inr ⟨g, cap, _, by rw [List.length_set]; exact hv, h1, hh, by rw [List.length_set]; exact h3, h4, ?_, ?_⟩⟩
  · intro x hx
    rcases List.mem_or_eq_of_mem_set hx with hx | rfl
    · exact h.1 x hx
    · exact ⟨hy, hy1⟩
  · rw [hflat, List.length_set, List.length_take, Nat.min_eq_left]
    simp; omega
  · simp; omega
  · rw [List.length_set, hflat]
/-- append(l[:i], ys...) where there is room, or l[:i] (ys empty) -/
theorem OwnRows.splice {base k : Nat} {e : TypeId} {w : World} {v : Value} {xs : List (List Value)} (h : OwnRows base e k w v xs) {i : Nat} {ys : List (List Value)} (hi : i ≤ xs.length) (hy : ∀ y ∈ ys, y.length = k ∧ ∀ u ∈ y, u.oneCell' = true) {g cap : Nat}
    (hg : v = .slice (some ⟨g, 0, none⟩) xs.length cap) (hc : i + ys.length ≤ cap) : OwnRows base e k (w.setCells g (i * k) ys.flatten) (.slice (some ⟨g, 0, none⟩) (i + ys.length) cap) (xs.take i ++ ys) := by
  obtain ⟨cap', cur, hv, h1, h2, h3, h4, h5, h6⟩ := h.open (g := g) (by rw [hg]; rfl)
  rw [hg] at hv; cases hv
  have hys : ys.flatten.length = ys.length * k := flatten_len (fun y hm => (hy y hm).1)
  have hcl : cur.toList.length = cur.size := by simp
  have hik : i * k + ys.length * k ≤ cap * k := by rw [← Nat.add_mul]; exact Nat.mul_le_mul_right _ hc
  have hii : i * k ≤ xs.length * k := Nat.mul_le_mul_right _ hi
  have hh := setCells_heap ys.flatten (i * k) w cur h2 (by omega)
  have hlen : (xs.take i ++ ys).length = i + ys.length := by rw [List.length_append, List.length_take]; omega
  have hxs : ∀ x ∈ xs, x.length = k := fun x hx => (h.1 x hx).1
  have hflat : (xs.take i ++ ys).flatten = (cur.toList.take (i * k) ++ ys.flatten ++ cur.toList.drop (i * k + ys.flatten.length)).take ((i + ys.length) * k) := by
    rw [Nat.add_mul, ← hys, splice_take2 _ _ _ (by rw [hys]; omega), List.flatten_append, flatten_take hxs, ← h6, List.take_take, Nat.min_eq_left hii]
  refine ⟨?_, ?_, Or.inr ⟨g, cap, _, by rw [hlen], h1, hh, by rw [hlen]; exact hc, h4, ?_, ?_⟩⟩
  · intro x hx
    rcases List.mem_append.1 hx with hx | hx
    · exact h.1 x (List.mem_of_mem_take hx)
    · exact hy x hx
  · rw [hflat, hlen, List.length_take, Nat.min_eq_left]
    rw [List.length_append, List.length_append, List.length_take, List.length_drop, hys, Nat.add_mul]; omega
  · rw [List.size_toArray, List.length_append, List.length_append, List.length_take, List.length_drop, hys]; omega
  · rw [hlen, hflat]
theorem OwnRows.cut {base k : Nat} {e : TypeId} {w : World} {v : Value} {xs : List (List Value)} (h : OwnRows base e k w v xs) {i : Nat} (hi : i ≤ xs.length) {g cap : Nat} (hg : v = .slice (some ⟨g, 0, none⟩) xs.length cap) : OwnRows base e k w (.slice (some ⟨g, 0, none⟩) i cap) (xs.take i) := by
  obtain ⟨cap', cur, hv, h1, h2, h3, h4, h5, h6⟩ := h.open (g := g) (by rw [hg]; rfl)
  have hc : cap = cap' := by rw [hg] at hv; cases hv; rfl
  have := h.splice (i := i) (ys := []) hi (fun y hy => by cases hy) hg (by simp; omega)
  simpa [World.setCells] using this
/-- what lies behind the first i rows is none of theirs -/
theorem OwnRows.behind {base k : Nat} {e : TypeId} {w : World} {v : Value} {xs : List (List Value)} (h : OwnRows base e k w v xs) {o : Nat} {vs : List Value} (ho : xs.length * k ≤ o) {g cap : Nat}
    (hg : v = .slice (some ⟨g, 0, none⟩) xs.length cap) (hc : o + vs.length ≤ cap * k) : OwnRows base e k (w.setCells g o vs) v xs := by
  obtain ⟨cap', cur, hv, h1, h2, h3, h4, h5, h6⟩ := h.open (g := g) (by rw [hg]; rfl)
  rw [hg] at hv; cases hv
  have hh := setCells_heap vs o w cur h2 (by omega)
  refine ⟨h.1, h.2.1, Or.inr ⟨g, cap, _, hg, h1, hh, h3, h4, by simp; omega, ?_⟩⟩
  have hA : xs.length * k ≤ (cur.toList.take o).length := by rw [List.length_take]; simp; omega
  rw [List.append_assoc]
  show List.take (xs.length * k) (List.take o cur.toList ++ (vs ++ List.drop (o + vs.length) cur.toList)) = _
  rw [List.take_append_of_le_length hA, List.take_take, Nat.min_eq_left ho, h6]
/-- the cells from row i on are there, and free -/
theorem OwnRows.there {base k : Nat} {e : TypeId} {w : World} {v : Value} {xs : List (List Value)} (h : OwnRows base e k w v xs) {g cap : Nat} (hg : v = .slice (some ⟨g, 0, none⟩) xs.length cap) {o n : Nat} (hn : o + n ≤ cap * k) : w.there g o n := by
  obtain ⟨cap', cur, hv, h1, h2, h3, h4, h5, h6⟩ := h.open (g := g) (by rw [hg]; rfl)
  rw [hg] at hv; cases hv
  intro j hj
  constructor
  · simp only [World.cell?, h2]
    rw [Array.getElem?_eq_getElem (by omega)]; rfl
  · simp [World.frozen?, h2]
/-- two results, the first a struct in its block -/
theorem results_cell_tmp {P : Program} {fn : Func} {p q : Tmp} {ty : TypeId} (h : fn.results = #[.cell p ty, .tmp q]) (tmps : Array Value) (w : World) (g : Nat) (t : TypeId) (cs : Array Value) (fr : Nat × Nat) (d : TypeDesc)
    (hp : tmps.getD p undef = .pointer (some ⟨g, 0, none⟩)) (hg : w.heap[g]? = some (.cells cs t fr))
    (hu : P.underlying ty = some d) (hd : (match d with | .struct _ | .array _ _ => true | _ => false) = true) (hi : (P.info? ty).map (·.size) = some cs.size) :
    (results fn tmps).run P w = .ok (.tuple #[.agg cs, tmps.getD q undef]) w := by
  have hp' : tmps[p]?.getD undef = .pointer (some ⟨g, 0, none⟩) := by simpa using hp
  simp [results, h, hp', asAddr, run_loadVar_row w g t ty cs fr d hg hu hd hi]
theorem new_cells (w : World) (y : List Value) (t : TypeId) : ∀ j u, y[j]? = some u → (w.alloc (.cells y.toArray t)).cell? ((⟨w.heap.size, 0, none⟩ : Addr).add j) = some u := by
  intro j u hj
  have ea : (Addr.add ⟨w.heap.size, 0, none⟩ j) = ⟨w.heap.size, j, none⟩ := by unfold Addr.add; split <;> simp_all
  rw [ea, World.cell?_alloc_mark]
  simpa using hj
end Go.Proofs.YtkoobhgedoanhaaGreatDoor

namespace Go.Proofs.YtkoobhgedoanhaaGreatDoor
open Go.RowKit

/-- a block that nothing writes: of the caller's (below base), or one of strings -/
def Still (base : Nat) (w : World) (k : Nat) : Prop := k < base ∨ ∃ c f, w.heap[k]? = some (.cells c 9 f)
/-- blocks of S are the call's own, and none is one of strings -/
def Off (base : Nat) (w : World) (S : Nat → Prop) : Prop := ∀ k, S k → k < w.heap.size → base ≤ k ∧ ∀ c f, w.heap[k]? ≠ some (.cells c 9 f)
theorem Off.none (base : Nat) (w : World) : Off base w noB := fun _ h => absurd h (fun h => h)
theorem Still.fr {base : Nat} {w w' : World} {k : Nat} {S : Nat → Prop} (h : Still base w k) (hf : Fr S w w') (ho : Off base w S) : Still base w' k := by
  rcases h with h | ⟨c, f, h⟩
  · exact Or.inl h
  · exact Or.inr ⟨c, f, hf.keep h (fun hs => (ho k hs (lt_of_some h)).2 c f h)⟩
/-- v reads as ss, few of them, and stays so -/
structure StrsIn (base : Nat) (w : World) (v : Value) (ss : List ByteArray) : Prop where
  rd : StrsAt w v ss
  own : ∀ k, v.ownBlock = some k → ss ≠ [] → k < w.heap.size ∧ Still base w k
  few : ss.length < 4398046511104
theorem StrsAt.empty {w w' : World} {v : Value} (h : StrsAt w v []) : StrsAt w' v [] := by
  rcases h with h | ⟨bk, o, c, hv, _⟩
  · exact Or.inl h
  · exact Or.inl ⟨_, _, hv, rfl, fun e => by cases e⟩
theorem StrsIn.fr {base : Nat} {w w' : World} {v : Value} {ss : List ByteArray} {S : Nat → Prop} (h : StrsIn base w v ss) (hf : Fr S w w') (ho : Off base w S) : StrsIn base w' v ss := by
  refine ⟨?_, fun k hk hs => ⟨Nat.lt_of_lt_of_le (h.own k hk hs).1 hf.size, (h.own k hk hs).2.fr hf ho⟩, h.few⟩
  by_cases he : ss = []
  · subst he; exact h.rd.empty
  refine h.rd.fr hf (fun k hk hs => ?_)
  obtain ⟨hl, hst⟩ := h.own k hk he
  have hk2 := ho k hs hl
  rcases hst with g | ⟨c, f, g⟩
  · omega
  · exact hk2.2 c f g
theorem StrsIn.frN {base : Nat} {w w' : World} {v : Value} {ss : List ByteArray} (h : StrsIn base w v ss) (hf : Fr noB w w') : StrsIn base w' v ss := h.fr hf (Off.none _ _)
theorem StrsIn.nil (base : Nat) (w : World) : StrsIn base w (.slice none 0 0) [] := ⟨StrsAt.nil w, fun k hk => by simp [Value.ownBlock] at hk, by simp⟩
theorem Strs.in {base b : Nat} {w : World} {v : Value} {ss : List ByteArray} (h : Strs b w v ss) (hl : ss.length < 4398046511104) : StrsIn base w v ss := by
  refine ⟨h.at, fun k hk _ => ?_, hl⟩
  rcases h.2 with ⟨hv, _⟩ | ⟨g, cap, cur, hv, hg, hh, _⟩
  · rw [hv] at hk; simp [Value.ownBlock] at hk
  · rw [hv] at hk; simp [Value.ownBlock] at hk; subst hk
    exact ⟨lt_of_some hh, Or.inr ⟨_, _, hh⟩⟩

/-- both lists, one by one -/
inductive Both {α β : Type} (R : α → β → Prop) : List α → List β → Prop
  | nil : Both R [] []
  | cons {a b l m} : R a b → Both R l m → Both R (a :: l) (b :: m)
namespace Both
variable {α β : Type} {R T : α → β → Prop} {l l' : List α} {m m' : List β}
theorem len (h : Both R l m) : l.length = m.length := by induction h with
  | nil => rfl
  | cons _ _ ih => simp [ih]
theorem mono (h : Both R l m) (hs : ∀ a b, R a b → T a b) : Both T l m := by induction h with
  | nil => exact .nil
  | cons h _ ih => exact .cons (hs _ _ h) ih
theorem get (h : Both R l m) {i : Nat} {a : α} (hi : l[i]? = some a) : ∃ b, m[i]? = some b ∧ R a b := by
  induction h generalizing i with
  | nil => simp at hi
  | cons h _ ih =>
    cases i with
    | zero => simp at hi; subst hi; exact ⟨_, rfl, h⟩
    | succ i => simpa using ih (by simpa using hi)
theorem app (h : Both R l m) (h' : Both R l' m') : Both R (l ++ l') (m ++ m') := by induction h with
  | nil => exact h'
  | cons h _ ih => exact .cons h ih
theorem take (h : Both R l m) (n : Nat) : Both R (l.take n) (m.take n) := by
  induction h generalizing n with
  | nil => simp; exact .nil
  | cons h _ ih => cases n with
    | zero => exact .nil
    | succ n => exact .cons h (ih n)
theorem drop (h : Both R l m) (n : Nat) : Both R (l.drop n) (m.drop n) := by
  induction h generalizing n with
  | nil => simp; exact .nil
  | cons h t ih => cases n with
    | zero => exact .cons h t
    | succ n => exact ih n
theorem filter (h : Both R l m) {p : α → Bool} {q : β → Bool} (hpq : ∀ a b, R a b → p a = q b) : Both R (l.filter p) (m.filter q) := by
  induction h with
  | nil => exact .nil
  | cons h _ ih =>
    rw [List.filter_cons, List.filter_cons, hpq _ _ h]
    split
    · exact .cons h ih
    · exact ih
theorem memL (h : Both R l m) {a : α} (ha : a ∈ l) : ∃ b, b ∈ m ∧ R a b := by
  obtain ⟨i, hi⟩ := List.getElem?_of_mem ha
  obtain ⟨b, hb, hr⟩ := h.get hi
  exact ⟨b, List.mem_of_getElem? hb, hr⟩
end Both

theorem Fr.setRow {S : Nat → Prop} {a w : World} (h : Fr S a w) {g : Nat} (hg : g < a.heap.size → S g) (cs : Array Value) : Fr S a (w.setRow g cs) :=
  ⟨h.os, h.tape, h.output, by simpa [World.setRow] using h.size, fun k hk hn => by
    rw [← h.block k hk hn]
    simp only [World.setRow, Array.getElem?_modify]
    by_cases e : g = k
    · subst e; exact absurd (hg hk) hn
    · simp [e]⟩
theorem setRow_other {w : World} {g k : Nat} (h : k ≠ g) (cs : Array Value) : (w.setRow g cs).heap[k]? = w.heap[k]? := by
  simp only [World.setRow, Array.getElem?_modify]
  simp [Ne.symm h]
/-- the block of a row whose elements are no strings -/
def own (v : Value) : Nat → Prop := fun k => v.ownBlock = some k
theorem OwnRows.off {base b k : Nat} {e : TypeId} {w : World} {v : Value} {xs : List (List Value)} (h : OwnRows b e k w v xs) (hb : base ≤ b) (he : e ≠ 9) : Off base w (own v) := by
  intro g hg _
  obtain ⟨cap, cur, _, h1, h2, _⟩ := h.open hg
  exact ⟨Nat.le_trans hb h1, fun c f e2 => by rw [h2] at e2; cases e2; exact he rfl⟩
/-- behind an append: new blocks, and the row's own -/
theorem Fr.ofGrown {w w' : World} {v : Value} (o : Obj) (h : (w.alloc o).grownBy w' v.ownBlock) : Fr (own v) w w' :=
  ((Fr.refl (own v) w).alloc o).grown h (fun _ hk _ => hk)
end Go.Proofs.YtkoobhgedoanhaaGreatDoor

namespace Go.Proofs.YtkoobhgedoanhaaGreatDoor
open Go.RowKit

/-- a reader's block: its cursor, its text, what it has read -/
def RdrAt (w : World) (b c : Nat) (s : ByteArray) (v : Value) : Prop := w.heap[b]? = some (.cells #[.pointer (some ⟨c, 0, none⟩), .string s, v] 105 (0, 0))
section
variable {w w' : World} {b c i : Nat} {s t : ByteArray} {v : Value}
theorem RdrAt.cell0 (h : RdrAt w b c s v) : w.cell? ⟨b, 0, none⟩ = some (.pointer (some ⟨c, 0, none⟩)) := by simp [World.cell?, show w.heap[b]? = _ from h]
theorem RdrAt.cell1 (h : RdrAt w b c s v) : w.cell? ⟨b, 1, none⟩ = some (.string s) := by simp [World.cell?, show w.heap[b]? = _ from h]
theorem RdrAt.cell2 (h : RdrAt w b c s v) : w.cell? ⟨b, 2, none⟩ = some v := by simp [World.cell?, show w.heap[b]? = _ from h]
theorem RdrAt.free (h : RdrAt w b c s v) (k : Nat) : w.frozen? ⟨b, k, none⟩ = false := by simp [World.frozen?, show w.heap[b]? = _ from h]
theorem RdrAt.ne (h : RdrAt w b c s v) (g : CurAt w c t i) : b ≠ c := by
  intro e
  subst e
  have h' : w.heap[b]? = _ := h
  have g' : w.heap[b]? = _ := g
  rw [h'] at g'
  simp at g'
theorem RdrAt.fr {S : Nat → Prop} (h : RdrAt w b c s v) (hf : Fr S w w') (hn : ¬ S b) : RdrAt w' b c s v := hf.keep h hn
theorem RdrAt.one (h : RdrAt w b c s v) (g : CurAt w c t i) (hf : Fr (one c) w w') : RdrAt w' b c s v := h.fr hf (fun e => h.ne g e)
theorem RdrAt.lt (h : RdrAt w b c s v) : b < w.heap.size := lt_of_some h
theorem RdrAt.drewN {n : Nat} (h : RdrAt w b c s v) : RdrAt (w.drewN n) b c s v := h
end

theorem span_pos {p : UInt8 → Bool} {l : Bs} {i : Nat} : l.drop (spanEnd p l i) = (l.drop i).dropWhile p := drop_spanEnd p l i
/-- blanks, then gaps, are gaps -/
theorem span_gap (l : Bs) (k : Nat) (hk : k ≤ l.length) : spanEnd gapB l (spanEnd blankB l k) = spanEnd gapB l k := by
  have e1 : l.drop (spanEnd gapB l (spanEnd blankB l k)) = l.drop (spanEnd gapB l k) := by
    rw [drop_spanEnd, drop_spanEnd, drop_spanEnd]; exact gapsR_blanks _
  have h1 : spanEnd gapB l (spanEnd blankB l k) ≤ l.length := spanEnd_le (spanEnd_le hk)
  have h2 : spanEnd gapB l k ≤ l.length := spanEnd_le hk
  have := congrArg List.length e1
  simp at this; omega
theorem span_comma {l : Bs} {k : Nat} (h : l[k]? = some 44) : spanEnd gapB l (k + 1) = spanEnd gapB l k := (spanEnd_step h (by decide)).symm
theorem span_none {l : Bs} {k : Nat} (h : spanEnd blankB l k = k) (h2 : l[k]? ≠ some 44) : spanEnd gapB l k = k := by
  refine spanEnd_stop (fun c hc => ?_)
  unfold gapB
  cases hb : blankB c
  · have : c ≠ 44 := fun e => h2 (by rw [hc, e])
    simpa using this
  · have := spanEnd_step (p := blankB) hc hb
    have h3 := spanEnd_ge (p := blankB) (l := l) (i := k + 1)
    omega
theorem markB_iff (s : ByteArray) (k : Nat) (c : UInt8) : markB s k c = true ↔ s.data.toList[k]? = some c := by unfold markB; simp

set_option maxHeartbeats 1000000 in
theorem gaps_any (b c i : Nat) (s : ByteArray) (v : Value) (w : World) (hr : RdrAt w b c s v) (h : CurAt w c s i) (hs : s.size ≤ maxLen) (hi : i ≤ s.size) :
    Calls Tryz.prog 57 #[.pointer (some ⟨b, 0, none⟩)] w fun e w' => e = .returned (.tuple #[]) ∧ CurAt w' c s (spanEnd gapB s.data.toList i) ∧ Fr (one c) w w' := by
  go_enter Tryz.func57, Tryz.ntmps57
  go_wp2
  go_loopw [] (fun wr => ∃ k, k ≤ s.size ∧ CurAt wr c s k ∧ spanEnd gapB s.data.toList k = spanEnd gapB s.data.toList i ∧ Fr (one c) w wr) (fun wr => s.size - curPos wr c)
  case atStart => exact ⟨i, hi, h, rfl, Fr.refl _ _⟩
  case round =>
    obtain ⟨k, hk, hc, hsp, hfr⟩ := hrel
    have HSP := Lib.hid hsp
    clear hsp
    have hr1 := hr.one h hfr
    have q0 := hr1.cell0
    have hpos := Lib.hid hc.pos
    have hkl : k ≤ s.data.toList.length := by simpa using hk
    have HG := Lib.hid (span_gap s.data.toList k hkl)
    have hk1 : spanEnd blankB s.data.toList k ≤ s.size := by simpa using spanEnd_le (p := blankB) hkl
    have hk0 : k ≤ spanEnd blankB s.data.toList k := spanEnd_ge
    go_wp2_with fail
    refine (Blanks_any c s k wr hc hs hk).mono ?_
    rintro e w1 ⟨rfl, hc1, hf1⟩
    have HF1 := Lib.hid (hfr.trans hf1)
    have hr2 := hr1.one hc hf1
    have q1 := hr2.cell0
    generalize hK : spanEnd blankB s.data.toList k = K at *
    have HK := Lib.hid hK
    clear hK q0
    by_cases hlt : k < K
    · have hd : decide (k < K) = true := decide_eq_true hlt
      rw [hd]
      go_wp2
      go_roundw
      case rel => exact ⟨K, hk1, hc1, HG.out.trans HSP.out, HF1.out⟩
      case measure => rw [hpos.out, hc1.pos]; omega
    · have hd : decide (k < K) = false := decide_eq_false hlt
      have hKk : K = k := by omega
      subst hKk
      rw [hd]
      go_wp2_with fail
      refine (Mark_any c s K 44 w1 hc1 hs).mono ?_
      rintro e w2 ⟨rfl, hc2, hf2⟩
      have HF2 := Lib.hid (HF1.out.trans hf2)
      cases hm : markB s K 44
      · have hst := Lib.hid (span_none HK.out (fun e => by rw [(markB_iff s K 44).2 e] at hm; cases hm))
        rw [markTo_no hm] at hc2
        go_wp2
        go_end0
        rw [← HSP.out, hst.out]
        exact ⟨rfl, hc2, HF2.out⟩
      · have hst := Lib.hid (span_comma ((markB_iff s K 44).1 hm))
        rw [markTo_yes hm] at hc2
        have hlt2 : K < s.size := by
          have := (List.getElem?_eq_some_iff.1 ((markB_iff s K 44).1 hm)).1
          simpa using this
        go_wp2
        go_roundw
        case rel => exact ⟨K + 1, hlt2, hc2, hst.out.trans HSP.out, HF2.out⟩
        case measure => rw [hpos.out, hc2.pos]; omega

/-- where blanks end -/
def blk (s : ByteArray) (i : Nat) : Nat := spanEnd blankB s.data.toList i
theorem blk_le {s : ByteArray} {i : Nat} (h : i ≤ s.size) : blk s i ≤ s.size := by
  unfold blk; simpa using spanEnd_le (p := blankB) (l := s.data.toList) (i := i) (by simpa using h)
theorem blk_drop (s : ByteArray) (i : Nat) : s.data.toList.drop (blk s i) = blanksR (s.data.toList.drop i) := drop_spanEnd _ _ _
theorem over_at (s : ByteArray) (i : Nat) : overB (s.data.toList.drop i) = (decide (s.size ≤ blk s i) || markB s (blk s i) 44) := by
  unfold overB
  rw [← blk_drop]
  by_cases h : s.size ≤ blk s i
  · rw [List.drop_eq_nil_of_le (by simpa using h)]; simp [h, stopB]
  · have hlt : blk s i < s.data.toList.length := by simpa using h
    rw [List.drop_eq_getElem_cons hlt, decide_eq_false h, Bool.false_or]
    unfold stopB markB
    rw [List.getElem?_eq_getElem hlt, Bool.eq_iff_iff]
    simp
theorem goTo_at {k n : Nat} (h : k ≤ n) : goTo (k : Int) n = k := by unfold goTo; omega

set_option maxHeartbeats 1000000 in
theorem over_any (b c i : Nat) (s : ByteArray) (v : Value) (w : World) (hr : RdrAt w b c s v) (h : CurAt w c s i) (hs : s.size ≤ maxLen) (hi : i ≤ s.size) :
    Calls Tryz.prog 113 #[.pointer (some ⟨b, 0, none⟩)] w fun e w' => e = .returned (.bool (overB (s.data.toList.drop i))) ∧ CurAt w' c s (blk s i) ∧ Fr (one c) w w' := by
  have q0 := hr.cell0
  have hb := blk_le hi
  have HO := Lib.hid (over_at s i)
  generalize hK : blk s i = K at *
  have HK := Lib.hid hK
  clear hK
  go_enter Tryz.func113, Tryz.ntmps113
  go_wp2_with fail
  refine (Blanks_any c s i w h hs hi).mono ?_
  rintro e w1 ⟨rfl, hc1, hf1⟩
  replace hc1 : CurAt w1 c s (blk s i) := hc1
  rw [HK.out] at hc1
  have hr1 := hr.one h hf1
  have q1 := hr1.cell0
  clear q0
  go_wp2_with fail
  refine (At_any c s K w1 hc1).mono ?_
  rintro e w2 ⟨rfl, rfl⟩
  go_wp2_with fail
  refine (End_any c s K w1 hc1).mono ?_
  rintro e w3 ⟨rfl, n3, rfl⟩
  have hc3 : CurAt (w1.drewN n3) c s K := hc1.drewN n3
  have hf3 : Fr (one c) w (w1.drewN n3) := hf1.drewN n3
  have q3 := (hr1.drewN (n := n3)).cell0
  clear q1
  by_cases he : s.size ≤ K
  · have hd : decide (s.size ≤ K) = true := decide_eq_true he
    have HO2 := Lib.hid (show overB (s.data.toList.drop i) = true by rw [HO.out, hd]; rfl)
    rw [hd]
    clear HO
    go_wp2_with fail
    refine (Go_any c s K K (w1.drewN n3) hc3 hs).mono ?_
    rintro e w4 ⟨rfl, hc4, hf4⟩
    rw [goTo_at hb] at hc4
    go_wp2
    go_ret
    rw [HO2.out]
    exact ⟨rfl, hc4, hf3.trans hf4⟩
  · have hd : decide (s.size ≤ K) = false := decide_eq_false he
    have HO2 := Lib.hid (show overB (s.data.toList.drop i) = markB s K 44 by rw [HO.out, hd]; rfl)
    rw [hd]
    clear HO
    go_wp2_with fail
    refine (Mark_any c s K 44 (w1.drewN n3) hc3 hs).mono ?_
    rintro e w4 ⟨rfl, hc4, hf4⟩
    have q4 := ((hr1.drewN (n := n3)).one hc3 hf4).cell0
    clear q3
    go_wp2_with fail
    refine (Go_any c s _ K w4 hc4 hs).mono ?_
    rintro e w5 ⟨rfl, hc5, hf5⟩
    rw [goTo_at hb] at hc5
    go_wp2
    go_ret
    rw [HO2.out]
    exact ⟨rfl, hc5, (hf3.trans hf4).trans hf5⟩

/-- where a word ends -/
def wrd (s : ByteArray) (i : Nat) : Nat := spanEnd byteB s.data.toList i
theorem wrd_le {s : ByteArray} {i : Nat} (h : i ≤ s.size) : wrd s i ≤ s.size := by
  unfold wrd; simpa using spanEnd_le (p := byteB) (l := s.data.toList) (i := i) (by simpa using h)
theorem wrd_drop (s : ByteArray) (i : Nat) : s.data.toList.drop (wrd s i) = afterW (s.data.toList.drop i) := drop_spanEnd _ _ _
theorem wrd_text (s : ByteArray) (i : Nat) : s.extract i (wrd s i) = ⟨(wordR (s.data.toList.drop i)).toArray⟩ := extract_span _ _ _
theorem head_at (s : ByteArray) (k : Nat) (c : UInt8) : hdB c (s.data.toList.drop k) = markB s k c := by
  unfold markB
  rcases Nat.lt_or_ge k s.data.toList.length with h | h
  · rw [List.drop_eq_getElem_cons h, List.getElem?_eq_getElem h, Bool.eq_iff_iff]; simp [hdB]
  · rw [List.drop_eq_nil_of_le h, List.getElem?_eq_none h]; simp [hdB]
theorem named_at (s : ByteArray) (i : Nat) : namedB (s.data.toList.drop i) = (!(wordR (s.data.toList.drop i)).isEmpty && markB s (blk s (wrd s i)) 61) := by
  unfold namedB
  rw [← wrd_drop, ← blk_drop, head_at]
theorem toList_mk (l : Bs) : (⟨l.toArray⟩ : ByteArray).toList = l := by rw [Go.ByteArray.toList_eq]

set_option maxHeartbeats 1000000 in
theorem named_any' (b c i : Nat) (s : ByteArray) (v : Value) (w : World) (hr : RdrAt w b c s v) (h : CurAt w c s i) (hs : s.size ≤ maxLen) (hi : i ≤ s.size) :
    Calls Tryz.prog 116 #[.pointer (some ⟨b, 0, none⟩)] w fun e w' => e = .returned (.bool (namedB (s.data.toList.drop i))) ∧ CurAt w' c s i ∧ Fr (one c) w w' := by
  have q0 := hr.cell0
  have HN := Lib.hid (named_at s i)
  have hw := wrd_le hi
  go_enter Tryz.func116, Tryz.ntmps116
  go_wp2_with fail
  refine (At_any c s i w h).mono ?_
  rintro e w0 ⟨rfl, rfl⟩
  go_wp2_with fail
  refine (Word_any c s i w h hs hi).mono ?_
  rintro e w1 ⟨rfl, hc1, hf1⟩
  replace hc1 : CurAt w1 c s (wrd s i) := hc1
  rw [show s.extract i (spanEnd byteB s.data.toList i) = ⟨(wordR (s.data.toList.drop i)).toArray⟩ from wrd_text s i]
  generalize wrd s i = K at *
  generalize wordR (s.data.toList.drop i) = W at *
  have hr1 := hr.one h hf1
  have q1 := hr1.cell0
  clear q0
  go_wp2_with fail
  refine (Blanks_any c s K w1 hc1 hs hw).mono ?_
  rintro e w2 ⟨rfl, hc2, hf2⟩
  replace hc2 : CurAt w2 c s (blk s K) := hc2
  have hb := blk_le hw
  generalize blk s K = M at *
  have hr2 := hr1.one hc1 hf2
  have q2 := hr2.cell0
  have HF2 := Lib.hid (hf1.trans hf2)
  clear q1 hf1 hf2
  cases W with
  | nil =>
    have HN2 := Lib.hid (show namedB (s.data.toList.drop i) = false by rw [HN.out]; rfl)
    clear HN
    go_wp2_with fail
    refine (Go_any c s M i w2 hc2 hs).mono ?_
    rintro e w4 ⟨rfl, hc4, hf4⟩
    rw [goTo_at hi] at hc4
    go_wp2
    go_ret
    rw [HN2.out]
    exact ⟨rfl, hc4, HF2.out.trans hf4⟩
  | cons x W =>
    have HN2 := Lib.hid (show namedB (s.data.toList.drop i) = markB s M 61 by rw [HN.out]; rfl)
    clear HN
    go_wp2_with fail
    refine (Mark_any c s M 61 w2 hc2 hs).mono ?_
    rintro e w3 ⟨rfl, hc3, hf3⟩
    have q3 := (hr2.one hc2 hf3).cell0
    clear q2
    go_wp2_with fail
    refine (Go_any c s _ i w3 hc3 hs).mono ?_
    rintro e w4 ⟨rfl, hc4, hf4⟩
    rw [goTo_at hi] at hc4
    go_wp2
    go_ret
    rw [HN2.out]
    exact ⟨rfl, hc4, (HF2.out.trans hf3).trans hf4⟩
end Go.Proofs.YtkoobhgedoanhaaGreatDoor
