/-
  No cell of these rows narrows 'for every input' (looked for: loops, veiled, ifaces, maps, wideKeys, modest, calm, conditions, laid).
  DERIVED. THE GIVEN ROWS OF THIS SEAT. 5 by the template 'for every input the law returns true; each argument reads behind the call as it read before'; 0 by the template 'total and deterministic' (their statements: YtijbpncekdiodaaTotals.lean).
  GIVEN WITH THE SEED: the statements are not yours to turn. If you find one false, say at which input.
  Laid BY PROGRAM, IN A SANDBOX (cutbox-rows.mjs): the forced cells as the released guide's own fill.sh prints them over the translation 80c328109a5947ea… (all of the seat's roots in one cut). By AI agents, Wed Nov 11 2026. No macro, syntax, notation, axiom, sorry.
-/
import Derived.Test.YtijbpncekdiodaaChecked
import GoSem.Claim
import GoSem.ClaimJoined
import GoSem.ClaimMapViews
import Derived.JoinedTies
import Derived.KernelRfl
namespace Go.Proofs.Ytijbpncekdiodaa
/- THE CELL 'sum', in the pinned program and in every row, IS THE sha256 OF THE DUMP (.gsa) THAT YtijbpncekdiodaaProg.lean LOADS. Nothing in Lean hashes anything: it is a label: what it is worth is what the hold of that sum in a sandbox is worth. -/
noncomputable def Try.pinned : Pinned := { name := "ytijbpncekdiodaa", sum := "80c328109a5947ea378dde261c23a13e646ba16d2cb685e15a964a3b296191d1", checked := Try.checked }
namespace Rows
def none {H : Type} : Left H := { results := [], args := [] }

/-- 'wherrylaw19.MailAll': WHATEVER THE INPUT: true; the input reads as it did. -/
def mailAllSpec : ChangeSpec := { name := "mailAll", fn := fun _ => fun
  | [d1, d2] => { results := [.lit (.bool true)], args := [d1, d2] }
  | _ => none }
def mailAllRow : OpenClaim := { program := "ytijbpncekdiodaa", sum := "80c328109a5947ea378dde261c23a13e646ba16d2cb685e15a964a3b296191d1", func := "wherry/wherrylaw19.MailAll", spec := "mailAll", unfollowed := true, recurses := true, apart := false }
def MailAllSaid : Prop := mailAllRow.holds Try.pinned (OpenSpec.ofChange mailAllSpec)

/-- ITS FALSE NEIGHBOUR: 'it returns false'. Refute it at one input. -/
def mailAllWrong : ChangeSpec := { name := "mailAll", fn := fun _ => fun
  | [d1, d2] => { results := [.lit (.bool false)], args := [d1, d2] }
  | _ => none }
def MailAllWrongFalsely : Prop := mailAllRow.holds Try.pinned (OpenSpec.ofChange mailAllWrong)

/-- 'wherrylaw19.MailApart': WHATEVER THE INPUT: true; the input reads as it did. -/
def mailApartSpec : ChangeSpec := { name := "mailApart", fn := fun _ => fun
  | [d1, d2] => { results := [.lit (.bool true)], args := [d1, d2] }
  | _ => none }
def mailApartRow : OpenClaim := { program := "ytijbpncekdiodaa", sum := "80c328109a5947ea378dde261c23a13e646ba16d2cb685e15a964a3b296191d1", func := "wherry/wherrylaw19.MailApart", spec := "mailApart", unfollowed := true, recurses := true, apart := false }
def MailApartSaid : Prop := mailApartRow.holds Try.pinned (OpenSpec.ofChange mailApartSpec)

/-- ITS FALSE NEIGHBOUR: 'it returns false'. Refute it at one input. -/
def mailApartWrong : ChangeSpec := { name := "mailApart", fn := fun _ => fun
  | [d1, d2] => { results := [.lit (.bool false)], args := [d1, d2] }
  | _ => none }
def MailApartWrongFalsely : Prop := mailApartRow.holds Try.pinned (OpenSpec.ofChange mailApartWrong)

/-- 'wherrylaw19.MailMoves': WHATEVER THE INPUT: true; the input reads as it did. -/
def mailMovesSpec : ChangeSpec := { name := "mailMoves", fn := fun _ => fun
  | [d1, d2] => { results := [.lit (.bool true)], args := [d1, d2] }
  | _ => none }
def mailMovesRow : OpenClaim := { program := "ytijbpncekdiodaa", sum := "80c328109a5947ea378dde261c23a13e646ba16d2cb685e15a964a3b296191d1", func := "wherry/wherrylaw19.MailMoves", spec := "mailMoves", unfollowed := true, recurses := true, apart := false }
def MailMovesSaid : Prop := mailMovesRow.holds Try.pinned (OpenSpec.ofChange mailMovesSpec)

/-- ITS FALSE NEIGHBOUR: 'it returns false'. Refute it at one input. -/
def mailMovesWrong : ChangeSpec := { name := "mailMoves", fn := fun _ => fun
  | [d1, d2] => { results := [.lit (.bool false)], args := [d1, d2] }
  | _ => none }
def MailMovesWrongFalsely : Prop := mailMovesRow.holds Try.pinned (OpenSpec.ofChange mailMovesWrong)

/-- 'wherrylaw19.MailPlays': WHATEVER THE INPUT: true; the input reads as it did. -/
def mailPlaysSpec : ChangeSpec := { name := "mailPlays", fn := fun _ => fun
  | [d1, d2] => { results := [.lit (.bool true)], args := [d1, d2] }
  | _ => none }
def mailPlaysRow : OpenClaim := { program := "ytijbpncekdiodaa", sum := "80c328109a5947ea378dde261c23a13e646ba16d2cb685e15a964a3b296191d1", func := "wherry/wherrylaw19.MailPlays", spec := "mailPlays", unfollowed := true, recurses := true, apart := false }
def MailPlaysSaid : Prop := mailPlaysRow.holds Try.pinned (OpenSpec.ofChange mailPlaysSpec)

/-- ITS FALSE NEIGHBOUR: 'it returns false'. Refute it at one input. -/
def mailPlaysWrong : ChangeSpec := { name := "mailPlays", fn := fun _ => fun
  | [d1, d2] => { results := [.lit (.bool false)], args := [d1, d2] }
  | _ => none }
def MailPlaysWrongFalsely : Prop := mailPlaysRow.holds Try.pinned (OpenSpec.ofChange mailPlaysWrong)

/-- 'wherrylaw19.MailNil': WHATEVER THE INPUT: true; the input reads as it did. -/
def mailNilSpec : ChangeSpec := { name := "mailNil", fn := fun _ => fun
  | [d] => { results := [.lit (.bool true)], args := [d] }
  | _ => none }
def mailNilRow : OpenClaim := { program := "ytijbpncekdiodaa", sum := "80c328109a5947ea378dde261c23a13e646ba16d2cb685e15a964a3b296191d1", func := "wherry/wherrylaw19.MailNil", spec := "mailNil", unfollowed := true, recurses := true, apart := false }
def MailNilSaid : Prop := mailNilRow.holds Try.pinned (OpenSpec.ofChange mailNilSpec)

/-- ITS FALSE NEIGHBOUR: 'it returns false'. Refute it at one input. -/
def mailNilWrong : ChangeSpec := { name := "mailNil", fn := fun _ => fun
  | [d] => { results := [.lit (.bool false)], args := [d] }
  | _ => none }
def MailNilWrongFalsely : Prop := mailNilRow.holds Try.pinned (OpenSpec.ofChange mailNilWrong)

/- THE SECOND FORM. 'bulk': how many values and letters a reading holds, each counted each time it is reached (what is shared counts as often as it is met; a slice's spare places count too). A statement '..UptoSaid' is the law's where the arguments, and the package variables that the reading takes, are together of bulk at most 1048576: NARROWER than '..Said'. Prove '..Said' where nothing that the law and all that it calls make is longer than what came in: it says more and counts as full. Else prove '..UptoSaid'. A law counts once. -/
mutual
def uptoBulk {H : Type} : DataW H → Nat
  | .lit (.string bytes) => bytes.length + 1
  | .lit _ => 1
  | .nil => 1
  | .ptr d => uptoBulk d + 1
  | .slice elems spare => uptoBulkAll elems + uptoBulkAll spare + 1
  | .agg parts => uptoBulkAll parts + 1
  | .iface _ d => uptoBulk d + 1
  | .map entries => uptoBulkEntries entries + 1
  | .held _ => 1
def uptoBulkAll {H : Type} : List (DataW H) → Nat
  | [] => 0
  | d :: r => uptoBulk d + uptoBulkAll r
def uptoBulkEntries {H : Type} : List (Lit × DataW H) → Nat
  | [] => 0
  | x :: r => uptoBulkEntry x + uptoBulkEntries r
def uptoBulkEntry {H : Type} : Lit × DataW H → Nat
  | (.string bytes, d) => bytes.length + uptoBulk d + 1
  | (_, d) => uptoBulk d + 1
 end
def uptoSmall : (H : Type) → List (DataW H) → Bool := fun _ ds => decide (uptoBulkAll ds ≤ 1048576)
def OpenSpec.upto (s : _root_.Go.ChangeSpec) : _root_.Go.OpenSpec := { _root_.Go.OpenSpec.ofChange s with cond := some uptoSmall }

/-- 'wherrylaw19.MailAll', WHERE WHAT IT READS IS OF BULK AT MOST 1048576: true; the input reads as it did. -/
def mailAllUptoRow : OpenClaim := { program := "ytijbpncekdiodaa", sum := "80c328109a5947ea378dde261c23a13e646ba16d2cb685e15a964a3b296191d1", func := "wherry/wherrylaw19.MailAll", spec := "mailAll", unfollowed := true, recurses := true, apart := false, narrowed := true }
def MailAllUptoSaid : Prop := mailAllUptoRow.holds Try.pinned (OpenSpec.upto mailAllSpec)

/-- 'wherrylaw19.MailApart', WHERE WHAT IT READS IS OF BULK AT MOST 1048576: true; the input reads as it did. -/
def mailApartUptoRow : OpenClaim := { program := "ytijbpncekdiodaa", sum := "80c328109a5947ea378dde261c23a13e646ba16d2cb685e15a964a3b296191d1", func := "wherry/wherrylaw19.MailApart", spec := "mailApart", unfollowed := true, recurses := true, apart := false, narrowed := true }
def MailApartUptoSaid : Prop := mailApartUptoRow.holds Try.pinned (OpenSpec.upto mailApartSpec)

/-- 'wherrylaw19.MailMoves', WHERE WHAT IT READS IS OF BULK AT MOST 1048576: true; the input reads as it did. -/
def mailMovesUptoRow : OpenClaim := { program := "ytijbpncekdiodaa", sum := "80c328109a5947ea378dde261c23a13e646ba16d2cb685e15a964a3b296191d1", func := "wherry/wherrylaw19.MailMoves", spec := "mailMoves", unfollowed := true, recurses := true, apart := false, narrowed := true }
def MailMovesUptoSaid : Prop := mailMovesUptoRow.holds Try.pinned (OpenSpec.upto mailMovesSpec)

/-- 'wherrylaw19.MailPlays', WHERE WHAT IT READS IS OF BULK AT MOST 1048576: true; the input reads as it did. -/
def mailPlaysUptoRow : OpenClaim := { program := "ytijbpncekdiodaa", sum := "80c328109a5947ea378dde261c23a13e646ba16d2cb685e15a964a3b296191d1", func := "wherry/wherrylaw19.MailPlays", spec := "mailPlays", unfollowed := true, recurses := true, apart := false, narrowed := true }
def MailPlaysUptoSaid : Prop := mailPlaysUptoRow.holds Try.pinned (OpenSpec.upto mailPlaysSpec)

/-- 'wherrylaw19.MailNil', WHERE WHAT IT READS IS OF BULK AT MOST 1048576: true; the input reads as it did. -/
def mailNilUptoRow : OpenClaim := { program := "ytijbpncekdiodaa", sum := "80c328109a5947ea378dde261c23a13e646ba16d2cb685e15a964a3b296191d1", func := "wherry/wherrylaw19.MailNil", spec := "mailNil", unfollowed := true, recurses := true, apart := false, narrowed := true }
def MailNilUptoSaid : Prop := mailNilUptoRow.holds Try.pinned (OpenSpec.upto mailNilSpec)

end Rows
end Go.Proofs.Ytijbpncekdiodaa
