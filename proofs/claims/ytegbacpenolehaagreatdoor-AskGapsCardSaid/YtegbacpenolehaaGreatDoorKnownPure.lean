/- What a challenge asks for: the plain form. No program in sight. -/
import Derived.Test.YtegbacpenolehaaGreatDoorAskPure
import Derived.Test.YtegbacpenolehaaGreatDoorTypes
import Derived.Test.YtegbacpenolehaaGreatDoorCleanPure
namespace Go.Proofs.YtegbacpenolehaaGreatDoor
open Go.RowKit

def bA (l : Bs) : ByteArray := ⟨l.toArray⟩
theorem bA_data (l : Bs) : (bA l).data.toList = l := by unfold bA; simp
theorem bA_of (s : ByteArray) : bA s.data.toList = s := by unfold bA; simp
/-- ask.Get -/
def getP (ps : List Par) (name : Bs) : Option Bs := (ps.find? fun p => sameL p.1 name).map (·.2)
def nRealm : Bs := [114, 101, 97, 108, 109]
def nBasic : Bs := [98, 97, 115, 105, 99]
def nDigest : Bs := [100, 105, 103, 101, 115, 116]
def nAlg : Bs := [97, 108, 103, 111, 114, 105, 116, 104, 109]
def nMD5 : Bs := [77, 68, 53]
def nSHA : Bs := [83, 72, 65, 45, 50, 53, 54]
def nSess : Bs := [45, 115, 101, 115, 115]
def nNonce : Bs := [110, 111, 110, 99, 101]
def nQop : Bs := [113, 111, 112]
def nAuth : Bs := [97, 117, 116, 104]
def nInt : Bs := [97, 117, 116, 104, 45, 105, 110, 116]
def nOpaque : Bs := [111, 112, 97, 113, 117, 101]
def nStale : Bs := [115, 116, 97, 108, 101]
def nTrue : Bs := [116, 114, 117, 101]
def nDomain : Bs := [100, 111, 109, 97, 105, 110]
/-- ask.algorithm -/
def algR (s : Bs) : Option (Int × Bool) :=
  if sameL s nMD5 then some (2, false)
  else if sameL s (nMD5 ++ nSess) then some (2, true)
  else if sameL s nSHA then some (3, false)
  else if sameL s (nSHA ++ nSess) then some (3, true)
  else none
/-- the qop among the words of a list: the last one of the two counts; none: it can't be answered -/
def qopOf (l : List Bs) : Option Bs :=
  if l.any (fun w => sameL w nAuth) then some nAuth else if l.any (fun w => sameL w nInt) then some nInt else none
def qopR (q : Bs) : Option Bs :=
  match listAll q with
  | .error _ => none
  | .ok l => if 40 < l.length then none else qopOf l
def qopP (ps : List Par) : Option Bs :=
  match getP ps nQop with
  | none => some []
  | some q => qopR q
/-- the paths of a domain -/
def domR (d : Bs) : List Bs := ((splitL 32 d).filter fun p => hdB 47 p).map cleanL
/-- ask.Known -/
def knownL (x : Cha) : Option (AskOf Texts) :=
  match getP x.params nRealm with
  | none => none
  | some realm =>
    if sameL x.scheme nBasic then some ⟨1, bA realm, bA [], bA [], false, bA [], false, []⟩ else
    match algR ((getP x.params nAlg).getD nMD5) with
    | none => none
    | some (k, sess) =>
      if !sameL x.scheme nDigest then none else
      match getP x.params nNonce with
      | none => none
      | some nonce =>
        match qopP x.params with
        | none => none
        | some q => some ⟨k, bA realm, bA nonce, bA ((getP x.params nOpaque).getD []), sess, bA q, sameL ((getP x.params nStale).getD []) nTrue, (domR ((getP x.params nDomain).getD [])).map bA⟩
def noAsk : AskOf Texts := ⟨0, bA [], bA [], bA [], false, bA [], false, []⟩
/-- ask.Best -/
def bestTo (a : AskOf Texts) (x : Cha) : AskOf Texts :=
  match knownL x with
  | none => a
  | some b => if a.scheme < b.scheme then b else a
def bestL (l : List Cha) : AskOf Texts := l.foldl bestTo noAsk
theorem bestL_snoc (l : List Cha) (x : Cha) : bestL (l ++ [x]) = bestTo (bestL l) x := by simp [bestL]
end Go.Proofs.YtegbacpenolehaaGreatDoor
