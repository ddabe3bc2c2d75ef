/-
  No cell of these rows narrows 'for every input' (looked for: loops, veiled, ifaces, maps, wideKeys, modest, calm, conditions, laid).
  DERIVED. THE GIVEN ROWS OF THIS SEAT. 12 by the template 'for every input the law returns true; each argument reads behind the call as it read before'; 0 by the template 'total and deterministic' (their statements: YtemhalnhbgkbcaaTotals.lean).
  GIVEN WITH THE SEED: the statements are not yours to turn. If you find one false, say at which input.
  Laid BY PROGRAM, IN A SANDBOX (cutbox-rows.mjs): the forced cells as the released guide's own fill.sh prints them over the translation 38f4d3fd6129ab94… (all of the seat's roots in one cut). By AI agents, Wed Nov 11 2026. No macro, syntax, notation, axiom, sorry.
-/
import Derived.Test.YtemhalnhbgkbcaaChecked
import GoSem.Claim
import GoSem.ClaimJoined
import GoSem.ClaimMapViews
import Derived.JoinedTies
import Derived.KernelRfl
namespace Go.Proofs.Ytemhalnhbgkbcaa
/- THE CELL 'sum', in the pinned program and in every row, IS THE sha256 OF THE DUMP (.gsa) THAT YtemhalnhbgkbcaaProg.lean LOADS. Nothing in Lean hashes anything: it is a label: what it is worth is what the hold of that sum in a sandbox is worth. -/
noncomputable def Try.pinned : Pinned := { name := "ytemhalnhbgkbcaa", sum := "38f4d3fd6129ab94b9720798e368a9ee46b05d5f0f6722ee016e2888d746ce15", checked := Try.checked }
namespace Rows
def none {H : Type} : Left H := { results := [], args := [] }

/-- 'virgatelaw14.BitsRuns': WHATEVER THE INPUT: true; the input reads as it did. -/
def bitsRunsSpec : ChangeSpec := { name := "bitsRuns", fn := fun _ => fun
  | [d] => { results := [.lit (.bool true)], args := [d] }
  | _ => none }
def bitsRunsRow : OpenClaim := { program := "ytemhalnhbgkbcaa", sum := "38f4d3fd6129ab94b9720798e368a9ee46b05d5f0f6722ee016e2888d746ce15", func := "virgate/virgatelaw14.BitsRuns", spec := "bitsRuns", plainKeys := false, apart := false }
def BitsRunsSaid : Prop := bitsRunsRow.holds Try.pinned (OpenSpec.ofChange bitsRunsSpec)

/-- ITS FALSE NEIGHBOUR: 'it returns false'. Refute it at one input. -/
def bitsRunsWrong : ChangeSpec := { name := "bitsRuns", fn := fun _ => fun
  | [d] => { results := [.lit (.bool false)], args := [d] }
  | _ => none }
def BitsRunsWrongFalsely : Prop := bitsRunsRow.holds Try.pinned (OpenSpec.ofChange bitsRunsWrong)

/-- 'virgatelaw14.BitsOne': WHATEVER THE INPUT: true; the input reads as it did. -/
def bitsOneSpec : ChangeSpec := { name := "bitsOne", fn := fun _ => fun
  | [d1, d2, d3] => { results := [.lit (.bool true)], args := [d1, d2, d3] }
  | _ => none }
def bitsOneRow : OpenClaim := { program := "ytemhalnhbgkbcaa", sum := "38f4d3fd6129ab94b9720798e368a9ee46b05d5f0f6722ee016e2888d746ce15", func := "virgate/virgatelaw14.BitsOne", spec := "bitsOne", plainKeys := false, apart := false }
def BitsOneSaid : Prop := bitsOneRow.holds Try.pinned (OpenSpec.ofChange bitsOneSpec)

/-- ITS FALSE NEIGHBOUR: 'it returns false'. Refute it at one input. -/
def bitsOneWrong : ChangeSpec := { name := "bitsOne", fn := fun _ => fun
  | [d1, d2, d3] => { results := [.lit (.bool false)], args := [d1, d2, d3] }
  | _ => none }
def BitsOneWrongFalsely : Prop := bitsOneRow.holds Try.pinned (OpenSpec.ofChange bitsOneWrong)

/-- 'virgatelaw14.BitsLists': WHATEVER THE INPUT: true; the input reads as it did. -/
def bitsListsSpec : ChangeSpec := { name := "bitsLists", fn := fun _ => fun
  | [d1, d2] => { results := [.lit (.bool true)], args := [d1, d2] }
  | _ => none }
def bitsListsRow : OpenClaim := { program := "ytemhalnhbgkbcaa", sum := "38f4d3fd6129ab94b9720798e368a9ee46b05d5f0f6722ee016e2888d746ce15", func := "virgate/virgatelaw14.BitsLists", spec := "bitsLists", plainKeys := false, apart := false }
def BitsListsSaid : Prop := bitsListsRow.holds Try.pinned (OpenSpec.ofChange bitsListsSpec)

/-- ITS FALSE NEIGHBOUR: 'it returns false'. Refute it at one input. -/
def bitsListsWrong : ChangeSpec := { name := "bitsLists", fn := fun _ => fun
  | [d1, d2] => { results := [.lit (.bool false)], args := [d1, d2] }
  | _ => none }
def BitsListsWrongFalsely : Prop := bitsListsRow.holds Try.pinned (OpenSpec.ofChange bitsListsWrong)

/-- 'virgatelaw14.BitsPlaces': WHATEVER THE INPUT: true; the input reads as it did. -/
def bitsPlacesSpec : ChangeSpec := { name := "bitsPlaces", fn := fun _ => fun
  | [d1, d2] => { results := [.lit (.bool true)], args := [d1, d2] }
  | _ => none }
def bitsPlacesRow : OpenClaim := { program := "ytemhalnhbgkbcaa", sum := "38f4d3fd6129ab94b9720798e368a9ee46b05d5f0f6722ee016e2888d746ce15", func := "virgate/virgatelaw14.BitsPlaces", spec := "bitsPlaces", plainKeys := false, apart := false }
def BitsPlacesSaid : Prop := bitsPlacesRow.holds Try.pinned (OpenSpec.ofChange bitsPlacesSpec)

/-- ITS FALSE NEIGHBOUR: 'it returns false'. Refute it at one input. -/
def bitsPlacesWrong : ChangeSpec := { name := "bitsPlaces", fn := fun _ => fun
  | [d1, d2] => { results := [.lit (.bool false)], args := [d1, d2] }
  | _ => none }
def BitsPlacesWrongFalsely : Prop := bitsPlacesRow.holds Try.pinned (OpenSpec.ofChange bitsPlacesWrong)

/-- 'virgatelaw16.ImageFits': WHATEVER THE INPUT: true; the input reads as it did. -/
def imageFitsSpec : ChangeSpec := { name := "imageFits", fn := fun _ => fun
  | [d] => { results := [.lit (.bool true)], args := [d] }
  | _ => none }
def imageFitsRow : OpenClaim := { program := "ytemhalnhbgkbcaa", sum := "38f4d3fd6129ab94b9720798e368a9ee46b05d5f0f6722ee016e2888d746ce15", func := "virgate/virgatelaw16.ImageFits", spec := "imageFits", plainKeys := false, apart := false }
def ImageFitsSaid : Prop := imageFitsRow.holds Try.pinned (OpenSpec.ofChange imageFitsSpec)

/-- ITS FALSE NEIGHBOUR: 'it returns false'. Refute it at one input. -/
def imageFitsWrong : ChangeSpec := { name := "imageFits", fn := fun _ => fun
  | [d] => { results := [.lit (.bool false)], args := [d] }
  | _ => none }
def ImageFitsWrongFalsely : Prop := imageFitsRow.holds Try.pinned (OpenSpec.ofChange imageFitsWrong)

/-- 'virgatelaw16.ImagePut': WHATEVER THE INPUT: true; the input reads as it did. -/
def imagePutSpec : ChangeSpec := { name := "imagePut", fn := fun _ => fun
  | [d] => { results := [.lit (.bool true)], args := [d] }
  | _ => none }
def imagePutRow : OpenClaim := { program := "ytemhalnhbgkbcaa", sum := "38f4d3fd6129ab94b9720798e368a9ee46b05d5f0f6722ee016e2888d746ce15", func := "virgate/virgatelaw16.ImagePut", spec := "imagePut", plainKeys := false, apart := false }
def ImagePutSaid : Prop := imagePutRow.holds Try.pinned (OpenSpec.ofChange imagePutSpec)

/-- ITS FALSE NEIGHBOUR: 'it returns false'. Refute it at one input. -/
def imagePutWrong : ChangeSpec := { name := "imagePut", fn := fun _ => fun
  | [d] => { results := [.lit (.bool false)], args := [d] }
  | _ => none }
def ImagePutWrongFalsely : Prop := imagePutRow.holds Try.pinned (OpenSpec.ofChange imagePutWrong)

/-- 'virgatelaw16.ImageRead': WHATEVER THE INPUT: true; the input reads as it did. -/
def imageReadSpec : ChangeSpec := { name := "imageRead", fn := fun _ => fun
  | [d] => { results := [.lit (.bool true)], args := [d] }
  | _ => none }
def imageReadRow : OpenClaim := { program := "ytemhalnhbgkbcaa", sum := "38f4d3fd6129ab94b9720798e368a9ee46b05d5f0f6722ee016e2888d746ce15", func := "virgate/virgatelaw16.ImageRead", spec := "imageRead", plainKeys := false, apart := false }
def ImageReadSaid : Prop := imageReadRow.holds Try.pinned (OpenSpec.ofChange imageReadSpec)

/-- ITS FALSE NEIGHBOUR: 'it returns false'. Refute it at one input. -/
def imageReadWrong : ChangeSpec := { name := "imageRead", fn := fun _ => fun
  | [d] => { results := [.lit (.bool false)], args := [d] }
  | _ => none }
def ImageReadWrongFalsely : Prop := imageReadRow.holds Try.pinned (OpenSpec.ofChange imageReadWrong)

/-- 'virgatelaw15.BlockPlays': WHATEVER THE INPUT: true; the input reads as it did. -/
def blockPlaysSpec : ChangeSpec := { name := "blockPlays", fn := fun _ => fun
  | [d1, d2, d3] => { results := [.lit (.bool true)], args := [d1, d2, d3] }
  | _ => none }
def blockPlaysRow : OpenClaim := { program := "ytemhalnhbgkbcaa", sum := "38f4d3fd6129ab94b9720798e368a9ee46b05d5f0f6722ee016e2888d746ce15", func := "virgate/virgatelaw15.BlockPlays", spec := "blockPlays", unfollowed := true, recurses := true, plainKeys := false, apart := false }
def BlockPlaysSaid : Prop := blockPlaysRow.holds Try.pinned (OpenSpec.ofChange blockPlaysSpec)

/-- ITS FALSE NEIGHBOUR: 'it returns false'. Refute it at one input. -/
def blockPlaysWrong : ChangeSpec := { name := "blockPlays", fn := fun _ => fun
  | [d1, d2, d3] => { results := [.lit (.bool false)], args := [d1, d2, d3] }
  | _ => none }
def BlockPlaysWrongFalsely : Prop := blockPlaysRow.holds Try.pinned (OpenSpec.ofChange blockPlaysWrong)

/-- 'virgatelaw15.BlockRight': WHATEVER THE INPUT: true; the input reads as it did. -/
def blockRightSpec : ChangeSpec := { name := "blockRight", fn := fun _ => fun
  | [d1, d2, d3] => { results := [.lit (.bool true)], args := [d1, d2, d3] }
  | _ => none }
def blockRightRow : OpenClaim := { program := "ytemhalnhbgkbcaa", sum := "38f4d3fd6129ab94b9720798e368a9ee46b05d5f0f6722ee016e2888d746ce15", func := "virgate/virgatelaw15.BlockRight", spec := "blockRight", unfollowed := true, recurses := true, plainKeys := false, apart := false }
def BlockRightSaid : Prop := blockRightRow.holds Try.pinned (OpenSpec.ofChange blockRightSpec)

/-- ITS FALSE NEIGHBOUR: 'it returns false'. Refute it at one input. -/
def blockRightWrong : ChangeSpec := { name := "blockRight", fn := fun _ => fun
  | [d1, d2, d3] => { results := [.lit (.bool false)], args := [d1, d2, d3] }
  | _ => none }
def BlockRightWrongFalsely : Prop := blockRightRow.holds Try.pinned (OpenSpec.ofChange blockRightWrong)

/-- 'virgatelaw15.BlockBack': WHATEVER THE INPUT: true; the input reads as it did. -/
def blockBackSpec : ChangeSpec := { name := "blockBack", fn := fun _ => fun
  | [d1, d2, d3, d4] => { results := [.lit (.bool true)], args := [d1, d2, d3, d4] }
  | _ => none }
def blockBackRow : OpenClaim := { program := "ytemhalnhbgkbcaa", sum := "38f4d3fd6129ab94b9720798e368a9ee46b05d5f0f6722ee016e2888d746ce15", func := "virgate/virgatelaw15.BlockBack", spec := "blockBack", unfollowed := true, recurses := true, plainKeys := false, apart := false }
def BlockBackSaid : Prop := blockBackRow.holds Try.pinned (OpenSpec.ofChange blockBackSpec)

/-- ITS FALSE NEIGHBOUR: 'it returns false'. Refute it at one input. -/
def blockBackWrong : ChangeSpec := { name := "blockBack", fn := fun _ => fun
  | [d1, d2, d3, d4] => { results := [.lit (.bool false)], args := [d1, d2, d3, d4] }
  | _ => none }
def BlockBackWrongFalsely : Prop := blockBackRow.holds Try.pinned (OpenSpec.ofChange blockBackWrong)

/-- 'virgatelaw15.BlockTells': WHATEVER THE INPUT: true; the input reads as it did. -/
def blockTellsSpec : ChangeSpec := { name := "blockTells", fn := fun _ => fun
  | [d1, d2, d3] => { results := [.lit (.bool true)], args := [d1, d2, d3] }
  | _ => none }
def blockTellsRow : OpenClaim := { program := "ytemhalnhbgkbcaa", sum := "38f4d3fd6129ab94b9720798e368a9ee46b05d5f0f6722ee016e2888d746ce15", func := "virgate/virgatelaw15.BlockTells", spec := "blockTells", unfollowed := true, recurses := true, plainKeys := false, apart := false }
def BlockTellsSaid : Prop := blockTellsRow.holds Try.pinned (OpenSpec.ofChange blockTellsSpec)

/-- ITS FALSE NEIGHBOUR: 'it returns false'. Refute it at one input. -/
def blockTellsWrong : ChangeSpec := { name := "blockTells", fn := fun _ => fun
  | [d1, d2, d3] => { results := [.lit (.bool false)], args := [d1, d2, d3] }
  | _ => none }
def BlockTellsWrongFalsely : Prop := blockTellsRow.holds Try.pinned (OpenSpec.ofChange blockTellsWrong)

/-- 'virgatelaw16.ImagePlays': WHATEVER THE INPUT: true; the input reads as it did. -/
def imagePlaysSpec : ChangeSpec := { name := "imagePlays", fn := fun _ => fun
  | [d1, d2] => { results := [.lit (.bool true)], args := [d1, d2] }
  | _ => none }
def imagePlaysRow : OpenClaim := { program := "ytemhalnhbgkbcaa", sum := "38f4d3fd6129ab94b9720798e368a9ee46b05d5f0f6722ee016e2888d746ce15", func := "virgate/virgatelaw16.ImagePlays", spec := "imagePlays", unfollowed := true, recurses := true, plainKeys := false, apart := false }
def ImagePlaysSaid : Prop := imagePlaysRow.holds Try.pinned (OpenSpec.ofChange imagePlaysSpec)

/-- ITS FALSE NEIGHBOUR: 'it returns false'. Refute it at one input. -/
def imagePlaysWrong : ChangeSpec := { name := "imagePlays", fn := fun _ => fun
  | [d1, d2] => { results := [.lit (.bool false)], args := [d1, d2] }
  | _ => none }
def ImagePlaysWrongFalsely : Prop := imagePlaysRow.holds Try.pinned (OpenSpec.ofChange imagePlaysWrong)

/- THE SECOND FORM. 'bulk': how many values and letters a reading holds, each counted each time it is reached (what is shared counts as often as it is met; a slice's spare places count too). A statement '..UptoSaid' is the law's where the arguments, and the package variables that the reading takes, are together of bulk at most 1048576: NARROWER than '..Said'. Prove '..Said' where nothing that the law and all that it calls make is longer than what came in: it says more and counts as full. Else prove '..UptoSaid'. A law counts once. -/
mutual
def uptoBulk {H : Type} : DataW H → Nat
  | .lit (.string bytes) => bytes.length + 1
  | .lit _ => 1
  | .nil => 1
  | .ptr d => uptoBulk d + 1
  | .slice elems spare => uptoBulkAll elems + uptoBulkAll spare + 1
  | .agg parts => uptoBulkAll parts + 1
  | .iface _ d => uptoBulk d + 1
  | .map entries => uptoBulkEntries entries + 1
  | .held _ => 1
def uptoBulkAll {H : Type} : List (DataW H) → Nat
  | [] => 0
  | d :: r => uptoBulk d + uptoBulkAll r
def uptoBulkEntries {H : Type} : List (Lit × DataW H) → Nat
  | [] => 0
  | x :: r => uptoBulkEntry x + uptoBulkEntries r
def uptoBulkEntry {H : Type} : Lit × DataW H → Nat
  | (.string bytes, d) => bytes.length + uptoBulk d + 1
  | (_, d) => uptoBulk d + 1
 end
def uptoSmall : (H : Type) → List (DataW H) → Bool := fun _ ds => decide (uptoBulkAll ds ≤ 1048576)
def OpenSpec.upto (s : _root_.Go.ChangeSpec) : _root_.Go.OpenSpec := { _root_.Go.OpenSpec.ofChange s with cond := some uptoSmall }

/-- 'virgatelaw14.BitsRuns', WHERE WHAT IT READS IS OF BULK AT MOST 1048576: true; the input reads as it did. -/
def bitsRunsUptoRow : OpenClaim := { program := "ytemhalnhbgkbcaa", sum := "38f4d3fd6129ab94b9720798e368a9ee46b05d5f0f6722ee016e2888d746ce15", func := "virgate/virgatelaw14.BitsRuns", spec := "bitsRuns", plainKeys := false, apart := false, narrowed := true }
def BitsRunsUptoSaid : Prop := bitsRunsUptoRow.holds Try.pinned (OpenSpec.upto bitsRunsSpec)

/-- 'virgatelaw14.BitsOne', WHERE WHAT IT READS IS OF BULK AT MOST 1048576: true; the input reads as it did. -/
def bitsOneUptoRow : OpenClaim := { program := "ytemhalnhbgkbcaa", sum := "38f4d3fd6129ab94b9720798e368a9ee46b05d5f0f6722ee016e2888d746ce15", func := "virgate/virgatelaw14.BitsOne", spec := "bitsOne", plainKeys := false, apart := false, narrowed := true }
def BitsOneUptoSaid : Prop := bitsOneUptoRow.holds Try.pinned (OpenSpec.upto bitsOneSpec)

/-- 'virgatelaw14.BitsLists', WHERE WHAT IT READS IS OF BULK AT MOST 1048576: true; the input reads as it did. -/
def bitsListsUptoRow : OpenClaim := { program := "ytemhalnhbgkbcaa", sum := "38f4d3fd6129ab94b9720798e368a9ee46b05d5f0f6722ee016e2888d746ce15", func := "virgate/virgatelaw14.BitsLists", spec := "bitsLists", plainKeys := false, apart := false, narrowed := true }
def BitsListsUptoSaid : Prop := bitsListsUptoRow.holds Try.pinned (OpenSpec.upto bitsListsSpec)

/-- 'virgatelaw14.BitsPlaces', WHERE WHAT IT READS IS OF BULK AT MOST 1048576: true; the input reads as it did. -/
def bitsPlacesUptoRow : OpenClaim := { program := "ytemhalnhbgkbcaa", sum := "38f4d3fd6129ab94b9720798e368a9ee46b05d5f0f6722ee016e2888d746ce15", func := "virgate/virgatelaw14.BitsPlaces", spec := "bitsPlaces", plainKeys := false, apart := false, narrowed := true }
def BitsPlacesUptoSaid : Prop := bitsPlacesUptoRow.holds Try.pinned (OpenSpec.upto bitsPlacesSpec)

/-- 'virgatelaw16.ImageFits', WHERE WHAT IT READS IS OF BULK AT MOST 1048576: true; the input reads as it did. -/
def imageFitsUptoRow : OpenClaim := { program := "ytemhalnhbgkbcaa", sum := "38f4d3fd6129ab94b9720798e368a9ee46b05d5f0f6722ee016e2888d746ce15", func := "virgate/virgatelaw16.ImageFits", spec := "imageFits", plainKeys := false, apart := false, narrowed := true }
def ImageFitsUptoSaid : Prop := imageFitsUptoRow.holds Try.pinned (OpenSpec.upto imageFitsSpec)

/-- 'virgatelaw16.ImagePut', WHERE WHAT IT READS IS OF BULK AT MOST 1048576: true; the input reads as it did. -/
def imagePutUptoRow : OpenClaim := { program := "ytemhalnhbgkbcaa", sum := "38f4d3fd6129ab94b9720798e368a9ee46b05d5f0f6722ee016e2888d746ce15", func := "virgate/virgatelaw16.ImagePut", spec := "imagePut", plainKeys := false, apart := false, narrowed := true }
def ImagePutUptoSaid : Prop := imagePutUptoRow.holds Try.pinned (OpenSpec.upto imagePutSpec)

/-- 'virgatelaw16.ImageRead', WHERE WHAT IT READS IS OF BULK AT MOST 1048576: true; the input reads as it did. -/
def imageReadUptoRow : OpenClaim := { program := "ytemhalnhbgkbcaa", sum := "38f4d3fd6129ab94b9720798e368a9ee46b05d5f0f6722ee016e2888d746ce15", func := "virgate/virgatelaw16.ImageRead", spec := "imageRead", plainKeys := false, apart := false, narrowed := true }
def ImageReadUptoSaid : Prop := imageReadUptoRow.holds Try.pinned (OpenSpec.upto imageReadSpec)

/-- 'virgatelaw15.BlockPlays', WHERE WHAT IT READS IS OF BULK AT MOST 1048576: true; the input reads as it did. -/
def blockPlaysUptoRow : OpenClaim := { program := "ytemhalnhbgkbcaa", sum := "38f4d3fd6129ab94b9720798e368a9ee46b05d5f0f6722ee016e2888d746ce15", func := "virgate/virgatelaw15.BlockPlays", spec := "blockPlays", unfollowed := true, recurses := true, plainKeys := false, apart := false, narrowed := true }
def BlockPlaysUptoSaid : Prop := blockPlaysUptoRow.holds Try.pinned (OpenSpec.upto blockPlaysSpec)

/-- 'virgatelaw15.BlockRight', WHERE WHAT IT READS IS OF BULK AT MOST 1048576: true; the input reads as it did. -/
def blockRightUptoRow : OpenClaim := { program := "ytemhalnhbgkbcaa", sum := "38f4d3fd6129ab94b9720798e368a9ee46b05d5f0f6722ee016e2888d746ce15", func := "virgate/virgatelaw15.BlockRight", spec := "blockRight", unfollowed := true, recurses := true, plainKeys := false, apart := false, narrowed := true }
def BlockRightUptoSaid : Prop := blockRightUptoRow.holds Try.pinned (OpenSpec.upto blockRightSpec)

/-- 'virgatelaw15.BlockBack', WHERE WHAT IT READS IS OF BULK AT MOST 1048576: true; the input reads as it did. -/
def blockBackUptoRow : OpenClaim := { program := "ytemhalnhbgkbcaa", sum := "38f4d3fd6129ab94b9720798e368a9ee46b05d5f0f6722ee016e2888d746ce15", func := "virgate/virgatelaw15.BlockBack", spec := "blockBack", unfollowed := true, recurses := true, plainKeys := false, apart := false, narrowed := true }
def BlockBackUptoSaid : Prop := blockBackUptoRow.holds Try.pinned (OpenSpec.upto blockBackSpec)

/-- 'virgatelaw15.BlockTells', WHERE WHAT IT READS IS OF BULK AT MOST 1048576: true; the input reads as it did. -/
def blockTellsUptoRow : OpenClaim := { program := "ytemhalnhbgkbcaa", sum := "38f4d3fd6129ab94b9720798e368a9ee46b05d5f0f6722ee016e2888d746ce15", func := "virgate/virgatelaw15.BlockTells", spec := "blockTells", unfollowed := true, recurses := true, plainKeys := false, apart := false, narrowed := true }
def BlockTellsUptoSaid : Prop := blockTellsUptoRow.holds Try.pinned (OpenSpec.upto blockTellsSpec)

/-- 'virgatelaw16.ImagePlays', WHERE WHAT IT READS IS OF BULK AT MOST 1048576: true; the input reads as it did. -/
def imagePlaysUptoRow : OpenClaim := { program := "ytemhalnhbgkbcaa", sum := "38f4d3fd6129ab94b9720798e368a9ee46b05d5f0f6722ee016e2888d746ce15", func := "virgate/virgatelaw16.ImagePlays", spec := "imagePlays", unfollowed := true, recurses := true, plainKeys := false, apart := false, narrowed := true }
def ImagePlaysUptoSaid : Prop := imagePlaysUptoRow.holds Try.pinned (OpenSpec.upto imagePlaysSpec)

end Rows
end Go.Proofs.Ytemhalnhbgkbcaa
