/-
  No cell of these rows narrows 'for every input' (looked for: loops, veiled, ifaces, maps, wideKeys, modest, calm, conditions, laid).
  DERIVED. THE GIVEN ROWS OF THIS SEAT. 11 by the template 'for every input the law returns true; each argument reads behind the call as it read before'; 0 by the template 'total and deterministic' (their statements: YtbkbganflnemeaaTotals.lean).
  GIVEN WITH THE SEED: the statements are not yours to turn. If you find one false, say at which input.
  Laid BY PROGRAM, IN A SANDBOX (cutbox-rows.mjs): the forced cells as the released guide's own fill.sh prints them over the translation cd3708560ac5f54d… (all of the seat's roots in one cut). By AI agents, Wed Nov 11 2026. No macro, syntax, notation, axiom, sorry.
-/
import Derived.Test.YtbkbganflnemeaaChecked
import GoSem.Claim
import GoSem.ClaimJoined
import GoSem.ClaimMapViews
import Derived.JoinedTies
import Derived.KernelRfl
namespace Go.Proofs.Ytbkbganflnemeaa
/- THE CELL 'sum', in the pinned program and in every row, IS THE sha256 OF THE DUMP (.gsa) THAT YtbkbganflnemeaaProg.lean LOADS. Nothing in Lean hashes anything: it is a label: what it is worth is what the hold of that sum in a sandbox is worth. -/
noncomputable def Try.pinned : Pinned := { name := "ytbkbganflnemeaa", sum := "cd3708560ac5f54d4242dc53fb8dd4877b39980b27b06ee45daa0bbd5bcf84f1", checked := Try.checked }
namespace Rows
def none {H : Type} : Left H := { results := [], args := [] }

/-- 'samphirelaw15.KeysNonces': WHATEVER THE INPUT: true; the input reads as it did. -/
def keysNoncesSpec : ChangeSpec := { name := "keysNonces", fn := fun _ => fun
  | [d1, d2] => { results := [.lit (.bool true)], args := [d1, d2] }
  | _ => none }
def keysNoncesRow : OpenClaim := { program := "ytbkbganflnemeaa", sum := "cd3708560ac5f54d4242dc53fb8dd4877b39980b27b06ee45daa0bbd5bcf84f1", func := "samphire/samphirelaw15.KeysNonces", spec := "keysNonces", inPlace := ["internal/abi.NoEscape", "internal/bytealg.MakeNoZero"], apart := false }
def KeysNoncesSaid : Prop := keysNoncesRow.holds Try.pinned (OpenSpec.ofChange keysNoncesSpec)

/-- ITS FALSE NEIGHBOUR: 'it returns false'. Refute it at one input. -/
def keysNoncesWrong : ChangeSpec := { name := "keysNonces", fn := fun _ => fun
  | [d1, d2] => { results := [.lit (.bool false)], args := [d1, d2] }
  | _ => none }
def KeysNoncesWrongFalsely : Prop := keysNoncesRow.holds Try.pinned (OpenSpec.ofChange keysNoncesWrong)

/-- 'samphirelaw15.KeysSend': WHATEVER THE INPUT: true; the input reads as it did. -/
def keysSendSpec : ChangeSpec := { name := "keysSend", fn := fun _ => fun
  | [d1, d2, d3] => { results := [.lit (.bool true)], args := [d1, d2, d3] }
  | _ => none }
def keysSendRow : OpenClaim := { program := "ytbkbganflnemeaa", sum := "cd3708560ac5f54d4242dc53fb8dd4877b39980b27b06ee45daa0bbd5bcf84f1", func := "samphire/samphirelaw15.KeysSend", spec := "keysSend", inPlace := ["internal/abi.NoEscape", "internal/bytealg.MakeNoZero"], apart := false }
def KeysSendSaid : Prop := keysSendRow.holds Try.pinned (OpenSpec.ofChange keysSendSpec)

/-- ITS FALSE NEIGHBOUR: 'it returns false'. Refute it at one input. -/
def keysSendWrong : ChangeSpec := { name := "keysSend", fn := fun _ => fun
  | [d1, d2, d3] => { results := [.lit (.bool false)], args := [d1, d2, d3] }
  | _ => none }
def KeysSendWrongFalsely : Prop := keysSendRow.holds Try.pinned (OpenSpec.ofChange keysSendWrong)

/-- 'samphirelaw15.KeysFresh': WHATEVER THE INPUT: true; the input reads as it did. -/
def keysFreshSpec : ChangeSpec := { name := "keysFresh", fn := fun _ => fun
  | [d1, d2, d3] => { results := [.lit (.bool true)], args := [d1, d2, d3] }
  | _ => none }
def keysFreshRow : OpenClaim := { program := "ytbkbganflnemeaa", sum := "cd3708560ac5f54d4242dc53fb8dd4877b39980b27b06ee45daa0bbd5bcf84f1", func := "samphire/samphirelaw15.KeysFresh", spec := "keysFresh", inPlace := ["internal/abi.NoEscape", "internal/bytealg.MakeNoZero"], apart := false }
def KeysFreshSaid : Prop := keysFreshRow.holds Try.pinned (OpenSpec.ofChange keysFreshSpec)

/-- ITS FALSE NEIGHBOUR: 'it returns false'. Refute it at one input. -/
def keysFreshWrong : ChangeSpec := { name := "keysFresh", fn := fun _ => fun
  | [d1, d2, d3] => { results := [.lit (.bool false)], args := [d1, d2, d3] }
  | _ => none }
def KeysFreshWrongFalsely : Prop := keysFreshRow.holds Try.pinned (OpenSpec.ofChange keysFreshWrong)

/-- 'samphirelaw16.VaultBack': WHATEVER THE INPUT: true; the input reads as it did. -/
def vaultBackSpec : ChangeSpec := { name := "vaultBack", fn := fun _ => fun
  | [d1, d2, d3] => { results := [.lit (.bool true)], args := [d1, d2, d3] }
  | _ => none }
def vaultBackRow : OpenClaim := { program := "ytbkbganflnemeaa", sum := "cd3708560ac5f54d4242dc53fb8dd4877b39980b27b06ee45daa0bbd5bcf84f1", func := "samphire/samphirelaw16.VaultBack", spec := "vaultBack", inPlace := ["internal/abi.NoEscape", "internal/bytealg.MakeNoZero"], apart := false }
def VaultBackSaid : Prop := vaultBackRow.holds Try.pinned (OpenSpec.ofChange vaultBackSpec)

/-- ITS FALSE NEIGHBOUR: 'it returns false'. Refute it at one input. -/
def vaultBackWrong : ChangeSpec := { name := "vaultBack", fn := fun _ => fun
  | [d1, d2, d3] => { results := [.lit (.bool false)], args := [d1, d2, d3] }
  | _ => none }
def VaultBackWrongFalsely : Prop := vaultBackRow.holds Try.pinned (OpenSpec.ofChange vaultBackWrong)

/-- 'samphirelaw16.VaultBlind': WHATEVER THE INPUT: true; the input reads as it did. -/
def vaultBlindSpec : ChangeSpec := { name := "vaultBlind", fn := fun _ => fun
  | [d1, d2, d3] => { results := [.lit (.bool true)], args := [d1, d2, d3] }
  | _ => none }
def vaultBlindRow : OpenClaim := { program := "ytbkbganflnemeaa", sum := "cd3708560ac5f54d4242dc53fb8dd4877b39980b27b06ee45daa0bbd5bcf84f1", func := "samphire/samphirelaw16.VaultBlind", spec := "vaultBlind", inPlace := ["internal/abi.NoEscape", "internal/bytealg.MakeNoZero"], apart := false }
def VaultBlindSaid : Prop := vaultBlindRow.holds Try.pinned (OpenSpec.ofChange vaultBlindSpec)

/-- ITS FALSE NEIGHBOUR: 'it returns false'. Refute it at one input. -/
def vaultBlindWrong : ChangeSpec := { name := "vaultBlind", fn := fun _ => fun
  | [d1, d2, d3] => { results := [.lit (.bool false)], args := [d1, d2, d3] }
  | _ => none }
def VaultBlindWrongFalsely : Prop := vaultBlindRow.holds Try.pinned (OpenSpec.ofChange vaultBlindWrong)

/-- 'samphirelaw16.VaultDraws': WHATEVER THE INPUT: true; the input reads as it did. -/
def vaultDrawsSpec : ChangeSpec := { name := "vaultDraws", fn := fun _ => fun
  | [d1, d2, d3] => { results := [.lit (.bool true)], args := [d1, d2, d3] }
  | _ => none }
def vaultDrawsRow : OpenClaim := { program := "ytbkbganflnemeaa", sum := "cd3708560ac5f54d4242dc53fb8dd4877b39980b27b06ee45daa0bbd5bcf84f1", func := "samphire/samphirelaw16.VaultDraws", spec := "vaultDraws", inPlace := ["internal/abi.NoEscape", "internal/bytealg.MakeNoZero"], unfollowed := true, recurses := true, apart := false }
def VaultDrawsSaid : Prop := vaultDrawsRow.holds Try.pinned (OpenSpec.ofChange vaultDrawsSpec)

/-- ITS FALSE NEIGHBOUR: 'it returns false'. Refute it at one input. -/
def vaultDrawsWrong : ChangeSpec := { name := "vaultDraws", fn := fun _ => fun
  | [d1, d2, d3] => { results := [.lit (.bool false)], args := [d1, d2, d3] }
  | _ => none }
def VaultDrawsWrongFalsely : Prop := vaultDrawsRow.holds Try.pinned (OpenSpec.ofChange vaultDrawsWrong)

/-- 'samphirelaw16.VaultNobody': WHATEVER THE INPUT: true; the input reads as it did. -/
def vaultNobodySpec : ChangeSpec := { name := "vaultNobody", fn := fun _ => fun
  | [d1, d2, d3] => { results := [.lit (.bool true)], args := [d1, d2, d3] }
  | _ => none }
def vaultNobodyRow : OpenClaim := { program := "ytbkbganflnemeaa", sum := "cd3708560ac5f54d4242dc53fb8dd4877b39980b27b06ee45daa0bbd5bcf84f1", func := "samphire/samphirelaw16.VaultNobody", spec := "vaultNobody", inPlace := ["internal/abi.NoEscape", "internal/bytealg.MakeNoZero"], unfollowed := true, recurses := true, apart := false }
def VaultNobodySaid : Prop := vaultNobodyRow.holds Try.pinned (OpenSpec.ofChange vaultNobodySpec)

/-- ITS FALSE NEIGHBOUR: 'it returns false'. Refute it at one input. -/
def vaultNobodyWrong : ChangeSpec := { name := "vaultNobody", fn := fun _ => fun
  | [d1, d2, d3] => { results := [.lit (.bool false)], args := [d1, d2, d3] }
  | _ => none }
def VaultNobodyWrongFalsely : Prop := vaultNobodyRow.holds Try.pinned (OpenSpec.ofChange vaultNobodyWrong)

/-- 'samphirelaw18.StoreTurns': WHATEVER THE INPUT: true; the input reads as it did. -/
def storeTurnsSpec : ChangeSpec := { name := "storeTurns", fn := fun _ => fun
  | [d] => { results := [.lit (.bool true)], args := [d] }
  | _ => none }
def storeTurnsRow : OpenClaim := { program := "ytbkbganflnemeaa", sum := "cd3708560ac5f54d4242dc53fb8dd4877b39980b27b06ee45daa0bbd5bcf84f1", func := "samphire/samphirelaw18.StoreTurns", spec := "storeTurns", inPlace := ["internal/abi.NoEscape", "internal/bytealg.MakeNoZero"], unfollowed := true, recurses := true, apart := false }
def StoreTurnsSaid : Prop := storeTurnsRow.holds Try.pinned (OpenSpec.ofChange storeTurnsSpec)

/-- ITS FALSE NEIGHBOUR: 'it returns false'. Refute it at one input. -/
def storeTurnsWrong : ChangeSpec := { name := "storeTurns", fn := fun _ => fun
  | [d] => { results := [.lit (.bool false)], args := [d] }
  | _ => none }
def StoreTurnsWrongFalsely : Prop := storeTurnsRow.holds Try.pinned (OpenSpec.ofChange storeTurnsWrong)

/-- 'samphirelaw18.StoreNobody': WHATEVER THE INPUT: true; the input reads as it did. -/
def storeNobodySpec : ChangeSpec := { name := "storeNobody", fn := fun _ => fun
  | [d] => { results := [.lit (.bool true)], args := [d] }
  | _ => none }
def storeNobodyRow : OpenClaim := { program := "ytbkbganflnemeaa", sum := "cd3708560ac5f54d4242dc53fb8dd4877b39980b27b06ee45daa0bbd5bcf84f1", func := "samphire/samphirelaw18.StoreNobody", spec := "storeNobody", inPlace := ["internal/abi.NoEscape", "internal/bytealg.MakeNoZero"], unfollowed := true, recurses := true, apart := false }
def StoreNobodySaid : Prop := storeNobodyRow.holds Try.pinned (OpenSpec.ofChange storeNobodySpec)

/-- ITS FALSE NEIGHBOUR: 'it returns false'. Refute it at one input. -/
def storeNobodyWrong : ChangeSpec := { name := "storeNobody", fn := fun _ => fun
  | [d] => { results := [.lit (.bool false)], args := [d] }
  | _ => none }
def StoreNobodyWrongFalsely : Prop := storeNobodyRow.holds Try.pinned (OpenSpec.ofChange storeNobodyWrong)

/-- 'samphirelaw18.StoreSpoilt': WHATEVER THE INPUT: true; the input reads as it did. -/
def storeSpoiltSpec : ChangeSpec := { name := "storeSpoilt", fn := fun _ => fun
  | [d1, d2, d3] => { results := [.lit (.bool true)], args := [d1, d2, d3] }
  | _ => none }
def storeSpoiltRow : OpenClaim := { program := "ytbkbganflnemeaa", sum := "cd3708560ac5f54d4242dc53fb8dd4877b39980b27b06ee45daa0bbd5bcf84f1", func := "samphire/samphirelaw18.StoreSpoilt", spec := "storeSpoilt", inPlace := ["internal/abi.NoEscape", "internal/bytealg.MakeNoZero"], unfollowed := true, recurses := true, apart := false }
def StoreSpoiltSaid : Prop := storeSpoiltRow.holds Try.pinned (OpenSpec.ofChange storeSpoiltSpec)

/-- ITS FALSE NEIGHBOUR: 'it returns false'. Refute it at one input. -/
def storeSpoiltWrong : ChangeSpec := { name := "storeSpoilt", fn := fun _ => fun
  | [d1, d2, d3] => { results := [.lit (.bool false)], args := [d1, d2, d3] }
  | _ => none }
def StoreSpoiltWrongFalsely : Prop := storeSpoiltRow.holds Try.pinned (OpenSpec.ofChange storeSpoiltWrong)

/-- 'samphirelaw18.StoreBefore': WHATEVER THE INPUT: true; the input reads as it did. -/
def storeBeforeSpec : ChangeSpec := { name := "storeBefore", fn := fun _ => fun
  | [d1, d2, d3] => { results := [.lit (.bool true)], args := [d1, d2, d3] }
  | _ => none }
def storeBeforeRow : OpenClaim := { program := "ytbkbganflnemeaa", sum := "cd3708560ac5f54d4242dc53fb8dd4877b39980b27b06ee45daa0bbd5bcf84f1", func := "samphire/samphirelaw18.StoreBefore", spec := "storeBefore", inPlace := ["internal/abi.NoEscape", "internal/bytealg.MakeNoZero"], unfollowed := true, recurses := true, apart := false }
def StoreBeforeSaid : Prop := storeBeforeRow.holds Try.pinned (OpenSpec.ofChange storeBeforeSpec)

/-- ITS FALSE NEIGHBOUR: 'it returns false'. Refute it at one input. -/
def storeBeforeWrong : ChangeSpec := { name := "storeBefore", fn := fun _ => fun
  | [d1, d2, d3] => { results := [.lit (.bool false)], args := [d1, d2, d3] }
  | _ => none }
def StoreBeforeWrongFalsely : Prop := storeBeforeRow.holds Try.pinned (OpenSpec.ofChange storeBeforeWrong)

/- THE SECOND FORM. 'bulk': how many values and letters a reading holds, each counted each time it is reached (what is shared counts as often as it is met; a slice's spare places count too). A statement '..UptoSaid' is the law's where the arguments, and the package variables that the reading takes, are together of bulk at most 1048576: NARROWER than '..Said'. Prove '..Said' where nothing that the law and all that it calls make is longer than what came in: it says more and counts as full. Else prove '..UptoSaid'. A law counts once. -/
mutual
def uptoBulk {H : Type} : DataW H → Nat
  | .lit (.string bytes) => bytes.length + 1
  | .lit _ => 1
  | .nil => 1
  | .ptr d => uptoBulk d + 1
  | .slice elems spare => uptoBulkAll elems + uptoBulkAll spare + 1
  | .agg parts => uptoBulkAll parts + 1
  | .iface _ d => uptoBulk d + 1
  | .map entries => uptoBulkEntries entries + 1
  | .held _ => 1
def uptoBulkAll {H : Type} : List (DataW H) → Nat
  | [] => 0
  | d :: r => uptoBulk d + uptoBulkAll r
def uptoBulkEntries {H : Type} : List (Lit × DataW H) → Nat
  | [] => 0
  | x :: r => uptoBulkEntry x + uptoBulkEntries r
def uptoBulkEntry {H : Type} : Lit × DataW H → Nat
  | (.string bytes, d) => bytes.length + uptoBulk d + 1
  | (_, d) => uptoBulk d + 1
 end
def uptoSmall : (H : Type) → List (DataW H) → Bool := fun _ ds => decide (uptoBulkAll ds ≤ 1048576)
def OpenSpec.upto (s : _root_.Go.ChangeSpec) : _root_.Go.OpenSpec := { _root_.Go.OpenSpec.ofChange s with cond := some uptoSmall }

/-- 'samphirelaw15.KeysNonces', WHERE WHAT IT READS IS OF BULK AT MOST 1048576: true; the input reads as it did. -/
def keysNoncesUptoRow : OpenClaim := { program := "ytbkbganflnemeaa", sum := "cd3708560ac5f54d4242dc53fb8dd4877b39980b27b06ee45daa0bbd5bcf84f1", func := "samphire/samphirelaw15.KeysNonces", spec := "keysNonces", inPlace := ["internal/abi.NoEscape", "internal/bytealg.MakeNoZero"], apart := false, narrowed := true }
def KeysNoncesUptoSaid : Prop := keysNoncesUptoRow.holds Try.pinned (OpenSpec.upto keysNoncesSpec)

/-- 'samphirelaw15.KeysSend', WHERE WHAT IT READS IS OF BULK AT MOST 1048576: true; the input reads as it did. -/
def keysSendUptoRow : OpenClaim := { program := "ytbkbganflnemeaa", sum := "cd3708560ac5f54d4242dc53fb8dd4877b39980b27b06ee45daa0bbd5bcf84f1", func := "samphire/samphirelaw15.KeysSend", spec := "keysSend", inPlace := ["internal/abi.NoEscape", "internal/bytealg.MakeNoZero"], apart := false, narrowed := true }
def KeysSendUptoSaid : Prop := keysSendUptoRow.holds Try.pinned (OpenSpec.upto keysSendSpec)

/-- 'samphirelaw15.KeysFresh', WHERE WHAT IT READS IS OF BULK AT MOST 1048576: true; the input reads as it did. -/
def keysFreshUptoRow : OpenClaim := { program := "ytbkbganflnemeaa", sum := "cd3708560ac5f54d4242dc53fb8dd4877b39980b27b06ee45daa0bbd5bcf84f1", func := "samphire/samphirelaw15.KeysFresh", spec := "keysFresh", inPlace := ["internal/abi.NoEscape", "internal/bytealg.MakeNoZero"], apart := false, narrowed := true }
def KeysFreshUptoSaid : Prop := keysFreshUptoRow.holds Try.pinned (OpenSpec.upto keysFreshSpec)

/-- 'samphirelaw16.VaultBack', WHERE WHAT IT READS IS OF BULK AT MOST 1048576: true; the input reads as it did. -/
def vaultBackUptoRow : OpenClaim := { program := "ytbkbganflnemeaa", sum := "cd3708560ac5f54d4242dc53fb8dd4877b39980b27b06ee45daa0bbd5bcf84f1", func := "samphire/samphirelaw16.VaultBack", spec := "vaultBack", inPlace := ["internal/abi.NoEscape", "internal/bytealg.MakeNoZero"], apart := false, narrowed := true }
def VaultBackUptoSaid : Prop := vaultBackUptoRow.holds Try.pinned (OpenSpec.upto vaultBackSpec)

/-- 'samphirelaw16.VaultBlind', WHERE WHAT IT READS IS OF BULK AT MOST 1048576: true; the input reads as it did. -/
def vaultBlindUptoRow : OpenClaim := { program := "ytbkbganflnemeaa", sum := "cd3708560ac5f54d4242dc53fb8dd4877b39980b27b06ee45daa0bbd5bcf84f1", func := "samphire/samphirelaw16.VaultBlind", spec := "vaultBlind", inPlace := ["internal/abi.NoEscape", "internal/bytealg.MakeNoZero"], apart := false, narrowed := true }
def VaultBlindUptoSaid : Prop := vaultBlindUptoRow.holds Try.pinned (OpenSpec.upto vaultBlindSpec)

/-- 'samphirelaw16.VaultDraws', WHERE WHAT IT READS IS OF BULK AT MOST 1048576: true; the input reads as it did. -/
def vaultDrawsUptoRow : OpenClaim := { program := "ytbkbganflnemeaa", sum := "cd3708560ac5f54d4242dc53fb8dd4877b39980b27b06ee45daa0bbd5bcf84f1", func := "samphire/samphirelaw16.VaultDraws", spec := "vaultDraws", inPlace := ["internal/abi.NoEscape", "internal/bytealg.MakeNoZero"], unfollowed := true, recurses := true, apart := false, narrowed := true }
def VaultDrawsUptoSaid : Prop := vaultDrawsUptoRow.holds Try.pinned (OpenSpec.upto vaultDrawsSpec)

/-- 'samphirelaw16.VaultNobody', WHERE WHAT IT READS IS OF BULK AT MOST 1048576: true; the input reads as it did. -/
def vaultNobodyUptoRow : OpenClaim := { program := "ytbkbganflnemeaa", sum := "cd3708560ac5f54d4242dc53fb8dd4877b39980b27b06ee45daa0bbd5bcf84f1", func := "samphire/samphirelaw16.VaultNobody", spec := "vaultNobody", inPlace := ["internal/abi.NoEscape", "internal/bytealg.MakeNoZero"], unfollowed := true, recurses := true, apart := false, narrowed := true }
def VaultNobodyUptoSaid : Prop := vaultNobodyUptoRow.holds Try.pinned (OpenSpec.upto vaultNobodySpec)

/-- 'samphirelaw18.StoreTurns', WHERE WHAT IT READS IS OF BULK AT MOST 1048576: true; the input reads as it did. -/
def storeTurnsUptoRow : OpenClaim := { program := "ytbkbganflnemeaa", sum := "cd3708560ac5f54d4242dc53fb8dd4877b39980b27b06ee45daa0bbd5bcf84f1", func := "samphire/samphirelaw18.StoreTurns", spec := "storeTurns", inPlace := ["internal/abi.NoEscape", "internal/bytealg.MakeNoZero"], unfollowed := true, recurses := true, apart := false, narrowed := true }
def StoreTurnsUptoSaid : Prop := storeTurnsUptoRow.holds Try.pinned (OpenSpec.upto storeTurnsSpec)

/-- 'samphirelaw18.StoreNobody', WHERE WHAT IT READS IS OF BULK AT MOST 1048576: true; the input reads as it did. -/
def storeNobodyUptoRow : OpenClaim := { program := "ytbkbganflnemeaa", sum := "cd3708560ac5f54d4242dc53fb8dd4877b39980b27b06ee45daa0bbd5bcf84f1", func := "samphire/samphirelaw18.StoreNobody", spec := "storeNobody", inPlace := ["internal/abi.NoEscape", "internal/bytealg.MakeNoZero"], unfollowed := true, recurses := true, apart := false, narrowed := true }
def StoreNobodyUptoSaid : Prop := storeNobodyUptoRow.holds Try.pinned (OpenSpec.upto storeNobodySpec)

/-- 'samphirelaw18.StoreSpoilt', WHERE WHAT IT READS IS OF BULK AT MOST 1048576: true; the input reads as it did. -/
def storeSpoiltUptoRow : OpenClaim := { program := "ytbkbganflnemeaa", sum := "cd3708560ac5f54d4242dc53fb8dd4877b39980b27b06ee45daa0bbd5bcf84f1", func := "samphire/samphirelaw18.StoreSpoilt", spec := "storeSpoilt", inPlace := ["internal/abi.NoEscape", "internal/bytealg.MakeNoZero"], unfollowed := true, recurses := true, apart := false, narrowed := true }
def StoreSpoiltUptoSaid : Prop := storeSpoiltUptoRow.holds Try.pinned (OpenSpec.upto storeSpoiltSpec)

/-- 'samphirelaw18.StoreBefore', WHERE WHAT IT READS IS OF BULK AT MOST 1048576: true; the input reads as it did. -/
def storeBeforeUptoRow : OpenClaim := { program := "ytbkbganflnemeaa", sum := "cd3708560ac5f54d4242dc53fb8dd4877b39980b27b06ee45daa0bbd5bcf84f1", func := "samphire/samphirelaw18.StoreBefore", spec := "storeBefore", inPlace := ["internal/abi.NoEscape", "internal/bytealg.MakeNoZero"], unfollowed := true, recurses := true, apart := false, narrowed := true }
def StoreBeforeUptoSaid : Prop := storeBeforeUptoRow.holds Try.pinned (OpenSpec.upto storeBeforeSpec)

end Rows
end Go.Proofs.Ytbkbganflnemeaa
