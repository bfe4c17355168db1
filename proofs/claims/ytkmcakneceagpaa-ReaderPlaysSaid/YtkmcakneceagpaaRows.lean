/-
  No cell of these rows narrows 'for every input' (looked for: loops, veiled, ifaces, maps, wideKeys, modest, calm, conditions, laid).
  DERIVED. THE GIVEN ROWS OF THIS SEAT. 31 by the template 'for every input the law returns true; each argument reads behind the call as it read before'; 0 by the template 'total and deterministic' (their statements: YtkmcakneceagpaaTotals.lean).
  GIVEN WITH THE SEED: the statements are not yours to turn. If you find one false, say at which input.
  Laid BY PROGRAM, IN A SANDBOX (cutbox-rows.mjs): the forced cells as the released guide's own fill.sh prints them over the translation 4da6c51b21201320… (all of the seat's roots in one cut). By AI agents, Wed Nov 11 2026. No macro, syntax, notation, axiom, sorry.
-/
import Derived.Test.YtkmcakneceagpaaChecked
import GoSem.Claim
import GoSem.ClaimJoined
import GoSem.ClaimMapViews
import Derived.JoinedTies
import Derived.KernelRfl
namespace Go.Proofs.Ytkmcakneceagpaa
/- THE CELL 'sum', in the pinned program and in every row, IS THE sha256 OF THE DUMP (.gsa) THAT YtkmcakneceagpaaProg.lean LOADS. Nothing in Lean hashes anything: it is a label: what it is worth is what the hold of that sum in a sandbox is worth. -/
noncomputable def Try.pinned : Pinned := { name := "ytkmcakneceagpaa", sum := "4da6c51b212013207a823799903150bcb5b35edc4d70a3d608965dc9276e5f12", checked := Try.checked }
namespace Rows
def none {H : Type} : Left H := { results := [], args := [] }

/-- 'aqueductlaw02.FieldFulls': WHATEVER THE INPUT: true; the input reads as it did. -/
def fieldFullsSpec : ChangeSpec := { name := "fieldFulls", fn := fun _ => fun
  | [d1, d2, d3] => { results := [.lit (.bool true)], args := [d1, d2, d3] }
  | _ => none }
def fieldFullsRow : OpenClaim := { program := "ytkmcakneceagpaa", sum := "4da6c51b212013207a823799903150bcb5b35edc4d70a3d608965dc9276e5f12", func := "aqueduct/aqueductlaw02.FieldFulls", spec := "fieldFulls", apart := false }
def FieldFullsSaid : Prop := fieldFullsRow.holds Try.pinned (OpenSpec.ofChange fieldFullsSpec)

/-- ITS FALSE NEIGHBOUR: 'it returns false'. Refute it at one input. -/
def fieldFullsWrong : ChangeSpec := { name := "fieldFulls", fn := fun _ => fun
  | [d1, d2, d3] => { results := [.lit (.bool false)], args := [d1, d2, d3] }
  | _ => none }
def FieldFullsWrongFalsely : Prop := fieldFullsRow.holds Try.pinned (OpenSpec.ofChange fieldFullsWrong)

/-- 'aqueductlaw02.FieldShorts': WHATEVER THE INPUT: true; the input reads as it did. -/
def fieldShortsSpec : ChangeSpec := { name := "fieldShorts", fn := fun _ => fun
  | [d1, d2, d3] => { results := [.lit (.bool true)], args := [d1, d2, d3] }
  | _ => none }
def fieldShortsRow : OpenClaim := { program := "ytkmcakneceagpaa", sum := "4da6c51b212013207a823799903150bcb5b35edc4d70a3d608965dc9276e5f12", func := "aqueduct/aqueductlaw02.FieldShorts", spec := "fieldShorts", apart := false }
def FieldShortsSaid : Prop := fieldShortsRow.holds Try.pinned (OpenSpec.ofChange fieldShortsSpec)

/-- ITS FALSE NEIGHBOUR: 'it returns false'. Refute it at one input. -/
def fieldShortsWrong : ChangeSpec := { name := "fieldShorts", fn := fun _ => fun
  | [d1, d2, d3] => { results := [.lit (.bool false)], args := [d1, d2, d3] }
  | _ => none }
def FieldShortsWrongFalsely : Prop := fieldShortsRow.holds Try.pinned (OpenSpec.ofChange fieldShortsWrong)

/-- 'aqueductlaw12.BlockSplits': WHATEVER THE INPUT: true; the input reads as it did. -/
def blockSplitsSpec : ChangeSpec := { name := "blockSplits", fn := fun _ => fun
  | [d1, d2, d3, d4] => { results := [.lit (.bool true)], args := [d1, d2, d3, d4] }
  | _ => none }
def blockSplitsRow : OpenClaim := { program := "ytkmcakneceagpaa", sum := "4da6c51b212013207a823799903150bcb5b35edc4d70a3d608965dc9276e5f12", func := "aqueduct/aqueductlaw12.BlockSplits", spec := "blockSplits", unfollowed := true, recurses := true, apart := false }
def BlockSplitsSaid : Prop := blockSplitsRow.holds Try.pinned (OpenSpec.ofChange blockSplitsSpec)

/-- ITS FALSE NEIGHBOUR: 'it returns false'. Refute it at one input. -/
def blockSplitsWrong : ChangeSpec := { name := "blockSplits", fn := fun _ => fun
  | [d1, d2, d3, d4] => { results := [.lit (.bool false)], args := [d1, d2, d3, d4] }
  | _ => none }
def BlockSplitsWrongFalsely : Prop := blockSplitsRow.holds Try.pinned (OpenSpec.ofChange blockSplitsWrong)

/-- 'aqueductlaw02.FieldThrees': WHATEVER THE INPUT: true; the input reads as it did. -/
def fieldThreesSpec : ChangeSpec := { name := "fieldThrees", fn := fun _ => fun
  | [d1, d2, d3] => { results := [.lit (.bool true)], args := [d1, d2, d3] }
  | _ => none }
def fieldThreesRow : OpenClaim := { program := "ytkmcakneceagpaa", sum := "4da6c51b212013207a823799903150bcb5b35edc4d70a3d608965dc9276e5f12", func := "aqueduct/aqueductlaw02.FieldThrees", spec := "fieldThrees", apart := false }
def FieldThreesSaid : Prop := fieldThreesRow.holds Try.pinned (OpenSpec.ofChange fieldThreesSpec)

/-- ITS FALSE NEIGHBOUR: 'it returns false'. Refute it at one input. -/
def fieldThreesWrong : ChangeSpec := { name := "fieldThrees", fn := fun _ => fun
  | [d1, d2, d3] => { results := [.lit (.bool false)], args := [d1, d2, d3] }
  | _ => none }
def FieldThreesWrongFalsely : Prop := fieldThreesRow.holds Try.pinned (OpenSpec.ofChange fieldThreesWrong)

/-- 'aqueductlaw02.FieldWords': WHATEVER THE INPUT: true; the input reads as it did. -/
def fieldWordsSpec : ChangeSpec := { name := "fieldWords", fn := fun _ => fun
  | [d1, d2, d3] => { results := [.lit (.bool true)], args := [d1, d2, d3] }
  | _ => none }
def fieldWordsRow : OpenClaim := { program := "ytkmcakneceagpaa", sum := "4da6c51b212013207a823799903150bcb5b35edc4d70a3d608965dc9276e5f12", func := "aqueduct/aqueductlaw02.FieldWords", spec := "fieldWords", apart := false }
def FieldWordsSaid : Prop := fieldWordsRow.holds Try.pinned (OpenSpec.ofChange fieldWordsSpec)

/-- ITS FALSE NEIGHBOUR: 'it returns false'. Refute it at one input. -/
def fieldWordsWrong : ChangeSpec := { name := "fieldWords", fn := fun _ => fun
  | [d1, d2, d3] => { results := [.lit (.bool false)], args := [d1, d2, d3] }
  | _ => none }
def FieldWordsWrongFalsely : Prop := fieldWordsRow.holds Try.pinned (OpenSpec.ofChange fieldWordsWrong)

/-- 'aqueductlaw02.FieldBack': WHATEVER THE INPUT: true; the input reads as it did. -/
def fieldBackSpec : ChangeSpec := { name := "fieldBack", fn := fun _ => fun
  | [d1, d2, d3] => { results := [.lit (.bool true)], args := [d1, d2, d3] }
  | _ => none }
def fieldBackRow : OpenClaim := { program := "ytkmcakneceagpaa", sum := "4da6c51b212013207a823799903150bcb5b35edc4d70a3d608965dc9276e5f12", func := "aqueduct/aqueductlaw02.FieldBack", spec := "fieldBack", apart := false }
def FieldBackSaid : Prop := fieldBackRow.holds Try.pinned (OpenSpec.ofChange fieldBackSpec)

/-- ITS FALSE NEIGHBOUR: 'it returns false'. Refute it at one input. -/
def fieldBackWrong : ChangeSpec := { name := "fieldBack", fn := fun _ => fun
  | [d1, d2, d3] => { results := [.lit (.bool false)], args := [d1, d2, d3] }
  | _ => none }
def FieldBackWrongFalsely : Prop := fieldBackRow.holds Try.pinned (OpenSpec.ofChange fieldBackWrong)

/-- 'aqueductlaw07.FrameHeads': WHATEVER THE INPUT: true; the input reads as it did. -/
def frameHeadsSpec : ChangeSpec := { name := "frameHeads", fn := fun _ => fun
  | [d1, d2] => { results := [.lit (.bool true)], args := [d1, d2] }
  | _ => none }
def frameHeadsRow : OpenClaim := { program := "ytkmcakneceagpaa", sum := "4da6c51b212013207a823799903150bcb5b35edc4d70a3d608965dc9276e5f12", func := "aqueduct/aqueductlaw07.FrameHeads", spec := "frameHeads", apart := false }
def FrameHeadsSaid : Prop := frameHeadsRow.holds Try.pinned (OpenSpec.ofChange frameHeadsSpec)

/-- ITS FALSE NEIGHBOUR: 'it returns false'. Refute it at one input. -/
def frameHeadsWrong : ChangeSpec := { name := "frameHeads", fn := fun _ => fun
  | [d1, d2] => { results := [.lit (.bool false)], args := [d1, d2] }
  | _ => none }
def FrameHeadsWrongFalsely : Prop := frameHeadsRow.holds Try.pinned (OpenSpec.ofChange frameHeadsWrong)

/-- 'aqueductlaw12.BlockZero': WHATEVER THE INPUT: true; the input reads as it did. -/
def blockZeroSpec : ChangeSpec := { name := "blockZero", fn := fun _ => fun
  | [d] => { results := [.lit (.bool true)], args := [d] }
  | _ => none }
def blockZeroRow : OpenClaim := { program := "ytkmcakneceagpaa", sum := "4da6c51b212013207a823799903150bcb5b35edc4d70a3d608965dc9276e5f12", func := "aqueduct/aqueductlaw12.BlockZero", spec := "blockZero", unfollowed := true, recurses := true, apart := false }
def BlockZeroSaid : Prop := blockZeroRow.holds Try.pinned (OpenSpec.ofChange blockZeroSpec)

/-- ITS FALSE NEIGHBOUR: 'it returns false'. Refute it at one input. -/
def blockZeroWrong : ChangeSpec := { name := "blockZero", fn := fun _ => fun
  | [d] => { results := [.lit (.bool false)], args := [d] }
  | _ => none }
def BlockZeroWrongFalsely : Prop := blockZeroRow.holds Try.pinned (OpenSpec.ofChange blockZeroWrong)

/-- 'aqueductlaw12.BlockAlone': WHATEVER THE INPUT: true; the input reads as it did. -/
def blockAloneSpec : ChangeSpec := { name := "blockAlone", fn := fun _ => fun
  | [d1, d2] => { results := [.lit (.bool true)], args := [d1, d2] }
  | _ => none }
def blockAloneRow : OpenClaim := { program := "ytkmcakneceagpaa", sum := "4da6c51b212013207a823799903150bcb5b35edc4d70a3d608965dc9276e5f12", func := "aqueduct/aqueductlaw12.BlockAlone", spec := "blockAlone", unfollowed := true, recurses := true, apart := false }
def BlockAloneSaid : Prop := blockAloneRow.holds Try.pinned (OpenSpec.ofChange blockAloneSpec)

/-- ITS FALSE NEIGHBOUR: 'it returns false'. Refute it at one input. -/
def blockAloneWrong : ChangeSpec := { name := "blockAlone", fn := fun _ => fun
  | [d1, d2] => { results := [.lit (.bool false)], args := [d1, d2] }
  | _ => none }
def BlockAloneWrongFalsely : Prop := blockAloneRow.holds Try.pinned (OpenSpec.ofChange blockAloneWrong)

/-- 'aqueductlaw01.ChunkRings': WHATEVER THE INPUT: true; the input reads as it did. -/
def chunkRingsSpec : ChangeSpec := { name := "chunkRings", fn := fun _ => fun
  | [d1, d2] => { results := [.lit (.bool true)], args := [d1, d2] }
  | _ => none }
def chunkRingsRow : OpenClaim := { program := "ytkmcakneceagpaa", sum := "4da6c51b212013207a823799903150bcb5b35edc4d70a3d608965dc9276e5f12", func := "aqueduct/aqueductlaw01.ChunkRings", spec := "chunkRings", apart := false }
def ChunkRingsSaid : Prop := chunkRingsRow.holds Try.pinned (OpenSpec.ofChange chunkRingsSpec)

/-- ITS FALSE NEIGHBOUR: 'it returns false'. Refute it at one input. -/
def chunkRingsWrong : ChangeSpec := { name := "chunkRings", fn := fun _ => fun
  | [d1, d2] => { results := [.lit (.bool false)], args := [d1, d2] }
  | _ => none }
def ChunkRingsWrongFalsely : Prop := chunkRingsRow.holds Try.pinned (OpenSpec.ofChange chunkRingsWrong)

/-- 'aqueductlaw01.ChunkOrder': WHATEVER THE INPUT: true; the input reads as it did. -/
def chunkOrderSpec : ChangeSpec := { name := "chunkOrder", fn := fun _ => fun
  | [d1, d2, d3] => { results := [.lit (.bool true)], args := [d1, d2, d3] }
  | _ => none }
def chunkOrderRow : OpenClaim := { program := "ytkmcakneceagpaa", sum := "4da6c51b212013207a823799903150bcb5b35edc4d70a3d608965dc9276e5f12", func := "aqueduct/aqueductlaw01.ChunkOrder", spec := "chunkOrder", apart := false }
def ChunkOrderSaid : Prop := chunkOrderRow.holds Try.pinned (OpenSpec.ofChange chunkOrderSpec)

/-- ITS FALSE NEIGHBOUR: 'it returns false'. Refute it at one input. -/
def chunkOrderWrong : ChangeSpec := { name := "chunkOrder", fn := fun _ => fun
  | [d1, d2, d3] => { results := [.lit (.bool false)], args := [d1, d2, d3] }
  | _ => none }
def ChunkOrderWrongFalsely : Prop := chunkOrderRow.holds Try.pinned (OpenSpec.ofChange chunkOrderWrong)

/-- 'aqueductlaw01.ChunkFull': WHATEVER THE INPUT: true; the input reads as it did. -/
def chunkFullSpec : ChangeSpec := { name := "chunkFull", fn := fun _ => fun
  | [d] => { results := [.lit (.bool true)], args := [d] }
  | _ => none }
def chunkFullRow : OpenClaim := { program := "ytkmcakneceagpaa", sum := "4da6c51b212013207a823799903150bcb5b35edc4d70a3d608965dc9276e5f12", func := "aqueduct/aqueductlaw01.ChunkFull", spec := "chunkFull", apart := false }
def ChunkFullSaid : Prop := chunkFullRow.holds Try.pinned (OpenSpec.ofChange chunkFullSpec)

/-- ITS FALSE NEIGHBOUR: 'it returns false'. Refute it at one input. -/
def chunkFullWrong : ChangeSpec := { name := "chunkFull", fn := fun _ => fun
  | [d] => { results := [.lit (.bool false)], args := [d] }
  | _ => none }
def ChunkFullWrongFalsely : Prop := chunkFullRow.holds Try.pinned (OpenSpec.ofChange chunkFullWrong)

/-- 'aqueductlaw12.BlockBound': WHATEVER THE INPUT: true; the input reads as it did. -/
def blockBoundSpec : ChangeSpec := { name := "blockBound", fn := fun _ => fun
  | [d1, d2] => { results := [.lit (.bool true)], args := [d1, d2] }
  | _ => none }
def blockBoundRow : OpenClaim := { program := "ytkmcakneceagpaa", sum := "4da6c51b212013207a823799903150bcb5b35edc4d70a3d608965dc9276e5f12", func := "aqueduct/aqueductlaw12.BlockBound", spec := "blockBound", unfollowed := true, recurses := true, apart := false }
def BlockBoundSaid : Prop := blockBoundRow.holds Try.pinned (OpenSpec.ofChange blockBoundSpec)

/-- ITS FALSE NEIGHBOUR: 'it returns false'. Refute it at one input. -/
def blockBoundWrong : ChangeSpec := { name := "blockBound", fn := fun _ => fun
  | [d1, d2] => { results := [.lit (.bool false)], args := [d1, d2] }
  | _ => none }
def BlockBoundWrongFalsely : Prop := blockBoundRow.holds Try.pinned (OpenSpec.ofChange blockBoundWrong)

/-- 'aqueductlaw12.BlockJoins': WHATEVER THE INPUT: true; the input reads as it did. -/
def blockJoinsSpec : ChangeSpec := { name := "blockJoins", fn := fun _ => fun
  | [d1, d2] => { results := [.lit (.bool true)], args := [d1, d2] }
  | _ => none }
def blockJoinsRow : OpenClaim := { program := "ytkmcakneceagpaa", sum := "4da6c51b212013207a823799903150bcb5b35edc4d70a3d608965dc9276e5f12", func := "aqueduct/aqueductlaw12.BlockJoins", spec := "blockJoins", unfollowed := true, recurses := true, apart := false }
def BlockJoinsSaid : Prop := blockJoinsRow.holds Try.pinned (OpenSpec.ofChange blockJoinsSpec)

/-- ITS FALSE NEIGHBOUR: 'it returns false'. Refute it at one input. -/
def blockJoinsWrong : ChangeSpec := { name := "blockJoins", fn := fun _ => fun
  | [d1, d2] => { results := [.lit (.bool false)], args := [d1, d2] }
  | _ => none }
def BlockJoinsWrongFalsely : Prop := blockJoinsRow.holds Try.pinned (OpenSpec.ofChange blockJoinsWrong)

/-- 'aqueductlaw12.BlockBack': WHATEVER THE INPUT: true; the input reads as it did. -/
def blockBackSpec : ChangeSpec := { name := "blockBack", fn := fun _ => fun
  | [d1, d2, d3, d4] => { results := [.lit (.bool true)], args := [d1, d2, d3, d4] }
  | _ => none }
def blockBackRow : OpenClaim := { program := "ytkmcakneceagpaa", sum := "4da6c51b212013207a823799903150bcb5b35edc4d70a3d608965dc9276e5f12", func := "aqueduct/aqueductlaw12.BlockBack", spec := "blockBack", unfollowed := true, recurses := true, apart := false }
def BlockBackSaid : Prop := blockBackRow.holds Try.pinned (OpenSpec.ofChange blockBackSpec)

/-- ITS FALSE NEIGHBOUR: 'it returns false'. Refute it at one input. -/
def blockBackWrong : ChangeSpec := { name := "blockBack", fn := fun _ => fun
  | [d1, d2, d3, d4] => { results := [.lit (.bool false)], args := [d1, d2, d3, d4] }
  | _ => none }
def BlockBackWrongFalsely : Prop := blockBackRow.holds Try.pinned (OpenSpec.ofChange blockBackWrong)

/-- 'aqueductlaw01.ChunkZero': WHATEVER THE INPUT: true; the input reads as it did. -/
def chunkZeroSpec : ChangeSpec := { name := "chunkZero", fn := fun _ => fun
  | [d1, d2] => { results := [.lit (.bool true)], args := [d1, d2] }
  | _ => none }
def chunkZeroRow : OpenClaim := { program := "ytkmcakneceagpaa", sum := "4da6c51b212013207a823799903150bcb5b35edc4d70a3d608965dc9276e5f12", func := "aqueduct/aqueductlaw01.ChunkZero", spec := "chunkZero", apart := false }
def ChunkZeroSaid : Prop := chunkZeroRow.holds Try.pinned (OpenSpec.ofChange chunkZeroSpec)

/-- ITS FALSE NEIGHBOUR: 'it returns false'. Refute it at one input. -/
def chunkZeroWrong : ChangeSpec := { name := "chunkZero", fn := fun _ => fun
  | [d1, d2] => { results := [.lit (.bool false)], args := [d1, d2] }
  | _ => none }
def ChunkZeroWrongFalsely : Prop := chunkZeroRow.holds Try.pinned (OpenSpec.ofChange chunkZeroWrong)

/-- 'aqueductlaw20.PumpThrough': WHATEVER THE INPUT: true; the input reads as it did. -/
def pumpThroughSpec : ChangeSpec := { name := "pumpThrough", fn := fun _ => fun
  | [d1, d2, d3, d4, d5] => { results := [.lit (.bool true)], args := [d1, d2, d3, d4, d5] }
  | _ => none }
def pumpThroughRow : OpenClaim := { program := "ytkmcakneceagpaa", sum := "4da6c51b212013207a823799903150bcb5b35edc4d70a3d608965dc9276e5f12", func := "aqueduct/aqueductlaw20.PumpThrough", spec := "pumpThrough", apart := false }
def PumpThroughSaid : Prop := pumpThroughRow.holds Try.pinned (OpenSpec.ofChange pumpThroughSpec)

/-- ITS FALSE NEIGHBOUR: 'it returns false'. Refute it at one input. -/
def pumpThroughWrong : ChangeSpec := { name := "pumpThrough", fn := fun _ => fun
  | [d1, d2, d3, d4, d5] => { results := [.lit (.bool false)], args := [d1, d2, d3, d4, d5] }
  | _ => none }
def PumpThroughWrongFalsely : Prop := pumpThroughRow.holds Try.pinned (OpenSpec.ofChange pumpThroughWrong)

/-- 'aqueductlaw20.PumpZero': WHATEVER THE INPUT: true; the input reads as it did. -/
def pumpZeroSpec : ChangeSpec := { name := "pumpZero", fn := fun _ => fun
  | [d1, d2] => { results := [.lit (.bool true)], args := [d1, d2] }
  | _ => none }
def pumpZeroRow : OpenClaim := { program := "ytkmcakneceagpaa", sum := "4da6c51b212013207a823799903150bcb5b35edc4d70a3d608965dc9276e5f12", func := "aqueduct/aqueductlaw20.PumpZero", spec := "pumpZero", apart := false }
def PumpZeroSaid : Prop := pumpZeroRow.holds Try.pinned (OpenSpec.ofChange pumpZeroSpec)

/-- ITS FALSE NEIGHBOUR: 'it returns false'. Refute it at one input. -/
def pumpZeroWrong : ChangeSpec := { name := "pumpZero", fn := fun _ => fun
  | [d1, d2] => { results := [.lit (.bool false)], args := [d1, d2] }
  | _ => none }
def PumpZeroWrongFalsely : Prop := pumpZeroRow.holds Try.pinned (OpenSpec.ofChange pumpZeroWrong)

/-- 'aqueductlaw20.PumpCuts': WHATEVER THE INPUT: true; the input reads as it did. -/
def pumpCutsSpec : ChangeSpec := { name := "pumpCuts", fn := fun _ => fun
  | [d1, d2, d3, d4] => { results := [.lit (.bool true)], args := [d1, d2, d3, d4] }
  | _ => none }
def pumpCutsRow : OpenClaim := { program := "ytkmcakneceagpaa", sum := "4da6c51b212013207a823799903150bcb5b35edc4d70a3d608965dc9276e5f12", func := "aqueduct/aqueductlaw20.PumpCuts", spec := "pumpCuts", apart := false }
def PumpCutsSaid : Prop := pumpCutsRow.holds Try.pinned (OpenSpec.ofChange pumpCutsSpec)

/-- ITS FALSE NEIGHBOUR: 'it returns false'. Refute it at one input. -/
def pumpCutsWrong : ChangeSpec := { name := "pumpCuts", fn := fun _ => fun
  | [d1, d2, d3, d4] => { results := [.lit (.bool false)], args := [d1, d2, d3, d4] }
  | _ => none }
def PumpCutsWrongFalsely : Prop := pumpCutsRow.holds Try.pinned (OpenSpec.ofChange pumpCutsWrong)

/-- 'aqueductlaw20.PumpPlays': WHATEVER THE INPUT: true; the input reads as it did. -/
def pumpPlaysSpec : ChangeSpec := { name := "pumpPlays", fn := fun _ => fun
  | [d1, d2] => { results := [.lit (.bool true)], args := [d1, d2] }
  | _ => none }
def pumpPlaysRow : OpenClaim := { program := "ytkmcakneceagpaa", sum := "4da6c51b212013207a823799903150bcb5b35edc4d70a3d608965dc9276e5f12", func := "aqueduct/aqueductlaw20.PumpPlays", spec := "pumpPlays", apart := false }
def PumpPlaysSaid : Prop := pumpPlaysRow.holds Try.pinned (OpenSpec.ofChange pumpPlaysSpec)

/-- ITS FALSE NEIGHBOUR: 'it returns false'. Refute it at one input. -/
def pumpPlaysWrong : ChangeSpec := { name := "pumpPlays", fn := fun _ => fun
  | [d1, d2] => { results := [.lit (.bool false)], args := [d1, d2] }
  | _ => none }
def PumpPlaysWrongFalsely : Prop := pumpPlaysRow.holds Try.pinned (OpenSpec.ofChange pumpPlaysWrong)

/-- 'aqueductlaw07.FrameWrites': WHATEVER THE INPUT: true; the input reads as it did. -/
def frameWritesSpec : ChangeSpec := { name := "frameWrites", fn := fun _ => fun
  | [d] => { results := [.lit (.bool true)], args := [d] }
  | _ => none }
def frameWritesRow : OpenClaim := { program := "ytkmcakneceagpaa", sum := "4da6c51b212013207a823799903150bcb5b35edc4d70a3d608965dc9276e5f12", func := "aqueduct/aqueductlaw07.FrameWrites", spec := "frameWrites", unfollowed := true, recurses := true, apart := false }
def FrameWritesSaid : Prop := frameWritesRow.holds Try.pinned (OpenSpec.ofChange frameWritesSpec)

/-- ITS FALSE NEIGHBOUR: 'it returns false'. Refute it at one input. -/
def frameWritesWrong : ChangeSpec := { name := "frameWrites", fn := fun _ => fun
  | [d] => { results := [.lit (.bool false)], args := [d] }
  | _ => none }
def FrameWritesWrongFalsely : Prop := frameWritesRow.holds Try.pinned (OpenSpec.ofChange frameWritesWrong)

/-- 'aqueductlaw07.FrameParses': WHATEVER THE INPUT: true; the input reads as it did. -/
def frameParsesSpec : ChangeSpec := { name := "frameParses", fn := fun _ => fun
  | [d1, d2] => { results := [.lit (.bool true)], args := [d1, d2] }
  | _ => none }
def frameParsesRow : OpenClaim := { program := "ytkmcakneceagpaa", sum := "4da6c51b212013207a823799903150bcb5b35edc4d70a3d608965dc9276e5f12", func := "aqueduct/aqueductlaw07.FrameParses", spec := "frameParses", unfollowed := true, recurses := true, apart := false }
def FrameParsesSaid : Prop := frameParsesRow.holds Try.pinned (OpenSpec.ofChange frameParsesSpec)

/-- ITS FALSE NEIGHBOUR: 'it returns false'. Refute it at one input. -/
def frameParsesWrong : ChangeSpec := { name := "frameParses", fn := fun _ => fun
  | [d1, d2] => { results := [.lit (.bool false)], args := [d1, d2] }
  | _ => none }
def FrameParsesWrongFalsely : Prop := frameParsesRow.holds Try.pinned (OpenSpec.ofChange frameParsesWrong)

/-- 'aqueductlaw07.FrameBack': WHATEVER THE INPUT: true; the input reads as it did. -/
def frameBackSpec : ChangeSpec := { name := "frameBack", fn := fun _ => fun
  | [d1, d2] => { results := [.lit (.bool true)], args := [d1, d2] }
  | _ => none }
def frameBackRow : OpenClaim := { program := "ytkmcakneceagpaa", sum := "4da6c51b212013207a823799903150bcb5b35edc4d70a3d608965dc9276e5f12", func := "aqueduct/aqueductlaw07.FrameBack", spec := "frameBack", unfollowed := true, recurses := true, apart := false }
def FrameBackSaid : Prop := frameBackRow.holds Try.pinned (OpenSpec.ofChange frameBackSpec)

/-- ITS FALSE NEIGHBOUR: 'it returns false'. Refute it at one input. -/
def frameBackWrong : ChangeSpec := { name := "frameBack", fn := fun _ => fun
  | [d1, d2] => { results := [.lit (.bool false)], args := [d1, d2] }
  | _ => none }
def FrameBackWrongFalsely : Prop := frameBackRow.holds Try.pinned (OpenSpec.ofChange frameBackWrong)

/-- 'aqueductlaw07.FrameShort': WHATEVER THE INPUT: true; the input reads as it did. -/
def frameShortSpec : ChangeSpec := { name := "frameShort", fn := fun _ => fun
  | [d1, d2] => { results := [.lit (.bool true)], args := [d1, d2] }
  | _ => none }
def frameShortRow : OpenClaim := { program := "ytkmcakneceagpaa", sum := "4da6c51b212013207a823799903150bcb5b35edc4d70a3d608965dc9276e5f12", func := "aqueduct/aqueductlaw07.FrameShort", spec := "frameShort", unfollowed := true, recurses := true, apart := false }
def FrameShortSaid : Prop := frameShortRow.holds Try.pinned (OpenSpec.ofChange frameShortSpec)

/-- ITS FALSE NEIGHBOUR: 'it returns false'. Refute it at one input. -/
def frameShortWrong : ChangeSpec := { name := "frameShort", fn := fun _ => fun
  | [d1, d2] => { results := [.lit (.bool false)], args := [d1, d2] }
  | _ => none }
def FrameShortWrongFalsely : Prop := frameShortRow.holds Try.pinned (OpenSpec.ofChange frameShortWrong)

/-- 'aqueductlaw07.FrameAgain': WHATEVER THE INPUT: true; the input reads as it did. -/
def frameAgainSpec : ChangeSpec := { name := "frameAgain", fn := fun _ => fun
  | [d] => { results := [.lit (.bool true)], args := [d] }
  | _ => none }
def frameAgainRow : OpenClaim := { program := "ytkmcakneceagpaa", sum := "4da6c51b212013207a823799903150bcb5b35edc4d70a3d608965dc9276e5f12", func := "aqueduct/aqueductlaw07.FrameAgain", spec := "frameAgain", unfollowed := true, recurses := true, apart := false }
def FrameAgainSaid : Prop := frameAgainRow.holds Try.pinned (OpenSpec.ofChange frameAgainSpec)

/-- ITS FALSE NEIGHBOUR: 'it returns false'. Refute it at one input. -/
def frameAgainWrong : ChangeSpec := { name := "frameAgain", fn := fun _ => fun
  | [d] => { results := [.lit (.bool false)], args := [d] }
  | _ => none }
def FrameAgainWrongFalsely : Prop := frameAgainRow.holds Try.pinned (OpenSpec.ofChange frameAgainWrong)

/-- 'aqueductlaw07.FramePads': WHATEVER THE INPUT: true; the input reads as it did. -/
def framePadsSpec : ChangeSpec := { name := "framePads", fn := fun _ => fun
  | [d1, d2, d3] => { results := [.lit (.bool true)], args := [d1, d2, d3] }
  | _ => none }
def framePadsRow : OpenClaim := { program := "ytkmcakneceagpaa", sum := "4da6c51b212013207a823799903150bcb5b35edc4d70a3d608965dc9276e5f12", func := "aqueduct/aqueductlaw07.FramePads", spec := "framePads", unfollowed := true, recurses := true, apart := false }
def FramePadsSaid : Prop := framePadsRow.holds Try.pinned (OpenSpec.ofChange framePadsSpec)

/-- ITS FALSE NEIGHBOUR: 'it returns false'. Refute it at one input. -/
def framePadsWrong : ChangeSpec := { name := "framePads", fn := fun _ => fun
  | [d1, d2, d3] => { results := [.lit (.bool false)], args := [d1, d2, d3] }
  | _ => none }
def FramePadsWrongFalsely : Prop := framePadsRow.holds Try.pinned (OpenSpec.ofChange framePadsWrong)

/-- 'aqueductlaw08.ReaderZero': WHATEVER THE INPUT: true; the input reads as it did. -/
def readerZeroSpec : ChangeSpec := { name := "readerZero", fn := fun _ => fun
  | [d] => { results := [.lit (.bool true)], args := [d] }
  | _ => none }
def readerZeroRow : OpenClaim := { program := "ytkmcakneceagpaa", sum := "4da6c51b212013207a823799903150bcb5b35edc4d70a3d608965dc9276e5f12", func := "aqueduct/aqueductlaw08.ReaderZero", spec := "readerZero", unfollowed := true, recurses := true, apart := false }
def ReaderZeroSaid : Prop := readerZeroRow.holds Try.pinned (OpenSpec.ofChange readerZeroSpec)

/-- ITS FALSE NEIGHBOUR: 'it returns false'. Refute it at one input. -/
def readerZeroWrong : ChangeSpec := { name := "readerZero", fn := fun _ => fun
  | [d] => { results := [.lit (.bool false)], args := [d] }
  | _ => none }
def ReaderZeroWrongFalsely : Prop := readerZeroRow.holds Try.pinned (OpenSpec.ofChange readerZeroWrong)

/-- 'aqueductlaw08.ReaderFails': WHATEVER THE INPUT: true; the input reads as it did. -/
def readerFailsSpec : ChangeSpec := { name := "readerFails", fn := fun _ => fun
  | [d1, d2, d3] => { results := [.lit (.bool true)], args := [d1, d2, d3] }
  | _ => none }
def readerFailsRow : OpenClaim := { program := "ytkmcakneceagpaa", sum := "4da6c51b212013207a823799903150bcb5b35edc4d70a3d608965dc9276e5f12", func := "aqueduct/aqueductlaw08.ReaderFails", spec := "readerFails", unfollowed := true, recurses := true, apart := false }
def ReaderFailsSaid : Prop := readerFailsRow.holds Try.pinned (OpenSpec.ofChange readerFailsSpec)

/-- ITS FALSE NEIGHBOUR: 'it returns false'. Refute it at one input. -/
def readerFailsWrong : ChangeSpec := { name := "readerFails", fn := fun _ => fun
  | [d1, d2, d3] => { results := [.lit (.bool false)], args := [d1, d2, d3] }
  | _ => none }
def ReaderFailsWrongFalsely : Prop := readerFailsRow.holds Try.pinned (OpenSpec.ofChange readerFailsWrong)

/-- 'aqueductlaw08.ReaderChunks': WHATEVER THE INPUT: true; the input reads as it did. -/
def readerChunksSpec : ChangeSpec := { name := "readerChunks", fn := fun _ => fun
  | [d1, d2, d3] => { results := [.lit (.bool true)], args := [d1, d2, d3] }
  | _ => none }
def readerChunksRow : OpenClaim := { program := "ytkmcakneceagpaa", sum := "4da6c51b212013207a823799903150bcb5b35edc4d70a3d608965dc9276e5f12", func := "aqueduct/aqueductlaw08.ReaderChunks", spec := "readerChunks", unfollowed := true, recurses := true, apart := false }
def ReaderChunksSaid : Prop := readerChunksRow.holds Try.pinned (OpenSpec.ofChange readerChunksSpec)

/-- ITS FALSE NEIGHBOUR: 'it returns false'. Refute it at one input. -/
def readerChunksWrong : ChangeSpec := { name := "readerChunks", fn := fun _ => fun
  | [d1, d2, d3] => { results := [.lit (.bool false)], args := [d1, d2, d3] }
  | _ => none }
def ReaderChunksWrongFalsely : Prop := readerChunksRow.holds Try.pinned (OpenSpec.ofChange readerChunksWrong)

/-- 'aqueductlaw08.ReaderPlays': WHATEVER THE INPUT: true; the input reads as it did. -/
def readerPlaysSpec : ChangeSpec := { name := "readerPlays", fn := fun _ => fun
  | [d1, d2] => { results := [.lit (.bool true)], args := [d1, d2] }
  | _ => none }
def readerPlaysRow : OpenClaim := { program := "ytkmcakneceagpaa", sum := "4da6c51b212013207a823799903150bcb5b35edc4d70a3d608965dc9276e5f12", func := "aqueduct/aqueductlaw08.ReaderPlays", spec := "readerPlays", unfollowed := true, recurses := true, apart := false }
def ReaderPlaysSaid : Prop := readerPlaysRow.holds Try.pinned (OpenSpec.ofChange readerPlaysSpec)

/-- ITS FALSE NEIGHBOUR: 'it returns false'. Refute it at one input. -/
def readerPlaysWrong : ChangeSpec := { name := "readerPlays", fn := fun _ => fun
  | [d1, d2] => { results := [.lit (.bool false)], args := [d1, d2] }
  | _ => none }
def ReaderPlaysWrongFalsely : Prop := readerPlaysRow.holds Try.pinned (OpenSpec.ofChange readerPlaysWrong)

/-- 'aqueductlaw08.ReaderFrames': WHATEVER THE INPUT: true; the input reads as it did. -/
def readerFramesSpec : ChangeSpec := { name := "readerFrames", fn := fun _ => fun
  | [d1, d2] => { results := [.lit (.bool true)], args := [d1, d2] }
  | _ => none }
def readerFramesRow : OpenClaim := { program := "ytkmcakneceagpaa", sum := "4da6c51b212013207a823799903150bcb5b35edc4d70a3d608965dc9276e5f12", func := "aqueduct/aqueductlaw08.ReaderFrames", spec := "readerFrames", unfollowed := true, recurses := true, apart := false }
def ReaderFramesSaid : Prop := readerFramesRow.holds Try.pinned (OpenSpec.ofChange readerFramesSpec)

/-- ITS FALSE NEIGHBOUR: 'it returns false'. Refute it at one input. -/
def readerFramesWrong : ChangeSpec := { name := "readerFrames", fn := fun _ => fun
  | [d1, d2] => { results := [.lit (.bool false)], args := [d1, d2] }
  | _ => none }
def ReaderFramesWrongFalsely : Prop := readerFramesRow.holds Try.pinned (OpenSpec.ofChange readerFramesWrong)

/- THE SECOND FORM. 'bulk': how many values and letters a reading holds, each counted each time it is reached (what is shared counts as often as it is met; a slice's spare places count too). A statement '..UptoSaid' is the law's where the arguments, and the package variables that the reading takes, are together of bulk at most 1048576: NARROWER than '..Said'. Prove '..Said' where nothing that the law and all that it calls make is longer than what came in: it says more and counts as full. Else prove '..UptoSaid'. A law counts once. -/
mutual
def uptoBulk {H : Type} : DataW H → Nat
  | .lit (.string bytes) => bytes.length + 1
  | .lit _ => 1
  | .nil => 1
  | .ptr d => uptoBulk d + 1
  | .slice elems spare => uptoBulkAll elems + uptoBulkAll spare + 1
  | .agg parts => uptoBulkAll parts + 1
  | .iface _ d => uptoBulk d + 1
  | .map entries => uptoBulkEntries entries + 1
  | .held _ => 1
def uptoBulkAll {H : Type} : List (DataW H) → Nat
  | [] => 0
  | d :: r => uptoBulk d + uptoBulkAll r
def uptoBulkEntries {H : Type} : List (Lit × DataW H) → Nat
  | [] => 0
  | x :: r => uptoBulkEntry x + uptoBulkEntries r
def uptoBulkEntry {H : Type} : Lit × DataW H → Nat
  | (.string bytes, d) => bytes.length + uptoBulk d + 1
  | (_, d) => uptoBulk d + 1
 end
def uptoSmall : (H : Type) → List (DataW H) → Bool := fun _ ds => decide (uptoBulkAll ds ≤ 1048576)
def OpenSpec.upto (s : _root_.Go.ChangeSpec) : _root_.Go.OpenSpec := { _root_.Go.OpenSpec.ofChange s with cond := some uptoSmall }

/-- 'aqueductlaw02.FieldFulls', WHERE WHAT IT READS IS OF BULK AT MOST 1048576: true; the input reads as it did. -/
def fieldFullsUptoRow : OpenClaim := { program := "ytkmcakneceagpaa", sum := "4da6c51b212013207a823799903150bcb5b35edc4d70a3d608965dc9276e5f12", func := "aqueduct/aqueductlaw02.FieldFulls", spec := "fieldFulls", apart := false, narrowed := true }
def FieldFullsUptoSaid : Prop := fieldFullsUptoRow.holds Try.pinned (OpenSpec.upto fieldFullsSpec)

/-- 'aqueductlaw02.FieldShorts', WHERE WHAT IT READS IS OF BULK AT MOST 1048576: true; the input reads as it did. -/
def fieldShortsUptoRow : OpenClaim := { program := "ytkmcakneceagpaa", sum := "4da6c51b212013207a823799903150bcb5b35edc4d70a3d608965dc9276e5f12", func := "aqueduct/aqueductlaw02.FieldShorts", spec := "fieldShorts", apart := false, narrowed := true }
def FieldShortsUptoSaid : Prop := fieldShortsUptoRow.holds Try.pinned (OpenSpec.upto fieldShortsSpec)

/-- 'aqueductlaw12.BlockSplits', WHERE WHAT IT READS IS OF BULK AT MOST 1048576: true; the input reads as it did. -/
def blockSplitsUptoRow : OpenClaim := { program := "ytkmcakneceagpaa", sum := "4da6c51b212013207a823799903150bcb5b35edc4d70a3d608965dc9276e5f12", func := "aqueduct/aqueductlaw12.BlockSplits", spec := "blockSplits", unfollowed := true, recurses := true, apart := false, narrowed := true }
def BlockSplitsUptoSaid : Prop := blockSplitsUptoRow.holds Try.pinned (OpenSpec.upto blockSplitsSpec)

/-- 'aqueductlaw02.FieldThrees', WHERE WHAT IT READS IS OF BULK AT MOST 1048576: true; the input reads as it did. -/
def fieldThreesUptoRow : OpenClaim := { program := "ytkmcakneceagpaa", sum := "4da6c51b212013207a823799903150bcb5b35edc4d70a3d608965dc9276e5f12", func := "aqueduct/aqueductlaw02.FieldThrees", spec := "fieldThrees", apart := false, narrowed := true }
def FieldThreesUptoSaid : Prop := fieldThreesUptoRow.holds Try.pinned (OpenSpec.upto fieldThreesSpec)

/-- 'aqueductlaw02.FieldWords', WHERE WHAT IT READS IS OF BULK AT MOST 1048576: true; the input reads as it did. -/
def fieldWordsUptoRow : OpenClaim := { program := "ytkmcakneceagpaa", sum := "4da6c51b212013207a823799903150bcb5b35edc4d70a3d608965dc9276e5f12", func := "aqueduct/aqueductlaw02.FieldWords", spec := "fieldWords", apart := false, narrowed := true }
def FieldWordsUptoSaid : Prop := fieldWordsUptoRow.holds Try.pinned (OpenSpec.upto fieldWordsSpec)

/-- 'aqueductlaw02.FieldBack', WHERE WHAT IT READS IS OF BULK AT MOST 1048576: true; the input reads as it did. -/
def fieldBackUptoRow : OpenClaim := { program := "ytkmcakneceagpaa", sum := "4da6c51b212013207a823799903150bcb5b35edc4d70a3d608965dc9276e5f12", func := "aqueduct/aqueductlaw02.FieldBack", spec := "fieldBack", apart := false, narrowed := true }
def FieldBackUptoSaid : Prop := fieldBackUptoRow.holds Try.pinned (OpenSpec.upto fieldBackSpec)

/-- 'aqueductlaw07.FrameHeads', WHERE WHAT IT READS IS OF BULK AT MOST 1048576: true; the input reads as it did. -/
def frameHeadsUptoRow : OpenClaim := { program := "ytkmcakneceagpaa", sum := "4da6c51b212013207a823799903150bcb5b35edc4d70a3d608965dc9276e5f12", func := "aqueduct/aqueductlaw07.FrameHeads", spec := "frameHeads", apart := false, narrowed := true }
def FrameHeadsUptoSaid : Prop := frameHeadsUptoRow.holds Try.pinned (OpenSpec.upto frameHeadsSpec)

/-- 'aqueductlaw12.BlockZero', WHERE WHAT IT READS IS OF BULK AT MOST 1048576: true; the input reads as it did. -/
def blockZeroUptoRow : OpenClaim := { program := "ytkmcakneceagpaa", sum := "4da6c51b212013207a823799903150bcb5b35edc4d70a3d608965dc9276e5f12", func := "aqueduct/aqueductlaw12.BlockZero", spec := "blockZero", unfollowed := true, recurses := true, apart := false, narrowed := true }
def BlockZeroUptoSaid : Prop := blockZeroUptoRow.holds Try.pinned (OpenSpec.upto blockZeroSpec)

/-- 'aqueductlaw12.BlockAlone', WHERE WHAT IT READS IS OF BULK AT MOST 1048576: true; the input reads as it did. -/
def blockAloneUptoRow : OpenClaim := { program := "ytkmcakneceagpaa", sum := "4da6c51b212013207a823799903150bcb5b35edc4d70a3d608965dc9276e5f12", func := "aqueduct/aqueductlaw12.BlockAlone", spec := "blockAlone", unfollowed := true, recurses := true, apart := false, narrowed := true }
def BlockAloneUptoSaid : Prop := blockAloneUptoRow.holds Try.pinned (OpenSpec.upto blockAloneSpec)

/-- 'aqueductlaw01.ChunkRings', WHERE WHAT IT READS IS OF BULK AT MOST 1048576: true; the input reads as it did. -/
def chunkRingsUptoRow : OpenClaim := { program := "ytkmcakneceagpaa", sum := "4da6c51b212013207a823799903150bcb5b35edc4d70a3d608965dc9276e5f12", func := "aqueduct/aqueductlaw01.ChunkRings", spec := "chunkRings", apart := false, narrowed := true }
def ChunkRingsUptoSaid : Prop := chunkRingsUptoRow.holds Try.pinned (OpenSpec.upto chunkRingsSpec)

/-- 'aqueductlaw01.ChunkOrder', WHERE WHAT IT READS IS OF BULK AT MOST 1048576: true; the input reads as it did. -/
def chunkOrderUptoRow : OpenClaim := { program := "ytkmcakneceagpaa", sum := "4da6c51b212013207a823799903150bcb5b35edc4d70a3d608965dc9276e5f12", func := "aqueduct/aqueductlaw01.ChunkOrder", spec := "chunkOrder", apart := false, narrowed := true }
def ChunkOrderUptoSaid : Prop := chunkOrderUptoRow.holds Try.pinned (OpenSpec.upto chunkOrderSpec)

/-- 'aqueductlaw01.ChunkFull', WHERE WHAT IT READS IS OF BULK AT MOST 1048576: true; the input reads as it did. -/
def chunkFullUptoRow : OpenClaim := { program := "ytkmcakneceagpaa", sum := "4da6c51b212013207a823799903150bcb5b35edc4d70a3d608965dc9276e5f12", func := "aqueduct/aqueductlaw01.ChunkFull", spec := "chunkFull", apart := false, narrowed := true }
def ChunkFullUptoSaid : Prop := chunkFullUptoRow.holds Try.pinned (OpenSpec.upto chunkFullSpec)

/-- 'aqueductlaw12.BlockBound', WHERE WHAT IT READS IS OF BULK AT MOST 1048576: true; the input reads as it did. -/
def blockBoundUptoRow : OpenClaim := { program := "ytkmcakneceagpaa", sum := "4da6c51b212013207a823799903150bcb5b35edc4d70a3d608965dc9276e5f12", func := "aqueduct/aqueductlaw12.BlockBound", spec := "blockBound", unfollowed := true, recurses := true, apart := false, narrowed := true }
def BlockBoundUptoSaid : Prop := blockBoundUptoRow.holds Try.pinned (OpenSpec.upto blockBoundSpec)

/-- 'aqueductlaw12.BlockJoins', WHERE WHAT IT READS IS OF BULK AT MOST 1048576: true; the input reads as it did. -/
def blockJoinsUptoRow : OpenClaim := { program := "ytkmcakneceagpaa", sum := "4da6c51b212013207a823799903150bcb5b35edc4d70a3d608965dc9276e5f12", func := "aqueduct/aqueductlaw12.BlockJoins", spec := "blockJoins", unfollowed := true, recurses := true, apart := false, narrowed := true }
def BlockJoinsUptoSaid : Prop := blockJoinsUptoRow.holds Try.pinned (OpenSpec.upto blockJoinsSpec)

/-- 'aqueductlaw12.BlockBack', WHERE WHAT IT READS IS OF BULK AT MOST 1048576: true; the input reads as it did. -/
def blockBackUptoRow : OpenClaim := { program := "ytkmcakneceagpaa", sum := "4da6c51b212013207a823799903150bcb5b35edc4d70a3d608965dc9276e5f12", func := "aqueduct/aqueductlaw12.BlockBack", spec := "blockBack", unfollowed := true, recurses := true, apart := false, narrowed := true }
def BlockBackUptoSaid : Prop := blockBackUptoRow.holds Try.pinned (OpenSpec.upto blockBackSpec)

/-- 'aqueductlaw01.ChunkZero', WHERE WHAT IT READS IS OF BULK AT MOST 1048576: true; the input reads as it did. -/
def chunkZeroUptoRow : OpenClaim := { program := "ytkmcakneceagpaa", sum := "4da6c51b212013207a823799903150bcb5b35edc4d70a3d608965dc9276e5f12", func := "aqueduct/aqueductlaw01.ChunkZero", spec := "chunkZero", apart := false, narrowed := true }
def ChunkZeroUptoSaid : Prop := chunkZeroUptoRow.holds Try.pinned (OpenSpec.upto chunkZeroSpec)

/-- 'aqueductlaw20.PumpThrough', WHERE WHAT IT READS IS OF BULK AT MOST 1048576: true; the input reads as it did. -/
def pumpThroughUptoRow : OpenClaim := { program := "ytkmcakneceagpaa", sum := "4da6c51b212013207a823799903150bcb5b35edc4d70a3d608965dc9276e5f12", func := "aqueduct/aqueductlaw20.PumpThrough", spec := "pumpThrough", apart := false, narrowed := true }
def PumpThroughUptoSaid : Prop := pumpThroughUptoRow.holds Try.pinned (OpenSpec.upto pumpThroughSpec)

/-- 'aqueductlaw20.PumpZero', WHERE WHAT IT READS IS OF BULK AT MOST 1048576: true; the input reads as it did. -/
def pumpZeroUptoRow : OpenClaim := { program := "ytkmcakneceagpaa", sum := "4da6c51b212013207a823799903150bcb5b35edc4d70a3d608965dc9276e5f12", func := "aqueduct/aqueductlaw20.PumpZero", spec := "pumpZero", apart := false, narrowed := true }
def PumpZeroUptoSaid : Prop := pumpZeroUptoRow.holds Try.pinned (OpenSpec.upto pumpZeroSpec)

/-- 'aqueductlaw20.PumpCuts', WHERE WHAT IT READS IS OF BULK AT MOST 1048576: true; the input reads as it did. -/
def pumpCutsUptoRow : OpenClaim := { program := "ytkmcakneceagpaa", sum := "4da6c51b212013207a823799903150bcb5b35edc4d70a3d608965dc9276e5f12", func := "aqueduct/aqueductlaw20.PumpCuts", spec := "pumpCuts", apart := false, narrowed := true }
def PumpCutsUptoSaid : Prop := pumpCutsUptoRow.holds Try.pinned (OpenSpec.upto pumpCutsSpec)

/-- 'aqueductlaw20.PumpPlays', WHERE WHAT IT READS IS OF BULK AT MOST 1048576: true; the input reads as it did. -/
def pumpPlaysUptoRow : OpenClaim := { program := "ytkmcakneceagpaa", sum := "4da6c51b212013207a823799903150bcb5b35edc4d70a3d608965dc9276e5f12", func := "aqueduct/aqueductlaw20.PumpPlays", spec := "pumpPlays", apart := false, narrowed := true }
def PumpPlaysUptoSaid : Prop := pumpPlaysUptoRow.holds Try.pinned (OpenSpec.upto pumpPlaysSpec)

/-- 'aqueductlaw07.FrameWrites', WHERE WHAT IT READS IS OF BULK AT MOST 1048576: true; the input reads as it did. -/
def frameWritesUptoRow : OpenClaim := { program := "ytkmcakneceagpaa", sum := "4da6c51b212013207a823799903150bcb5b35edc4d70a3d608965dc9276e5f12", func := "aqueduct/aqueductlaw07.FrameWrites", spec := "frameWrites", unfollowed := true, recurses := true, apart := false, narrowed := true }
def FrameWritesUptoSaid : Prop := frameWritesUptoRow.holds Try.pinned (OpenSpec.upto frameWritesSpec)

/-- 'aqueductlaw07.FrameParses', WHERE WHAT IT READS IS OF BULK AT MOST 1048576: true; the input reads as it did. -/
def frameParsesUptoRow : OpenClaim := { program := "ytkmcakneceagpaa", sum := "4da6c51b212013207a823799903150bcb5b35edc4d70a3d608965dc9276e5f12", func := "aqueduct/aqueductlaw07.FrameParses", spec := "frameParses", unfollowed := true, recurses := true, apart := false, narrowed := true }
def FrameParsesUptoSaid : Prop := frameParsesUptoRow.holds Try.pinned (OpenSpec.upto frameParsesSpec)

/-- 'aqueductlaw07.FrameBack', WHERE WHAT IT READS IS OF BULK AT MOST 1048576: true; the input reads as it did. -/
def frameBackUptoRow : OpenClaim := { program := "ytkmcakneceagpaa", sum := "4da6c51b212013207a823799903150bcb5b35edc4d70a3d608965dc9276e5f12", func := "aqueduct/aqueductlaw07.FrameBack", spec := "frameBack", unfollowed := true, recurses := true, apart := false, narrowed := true }
def FrameBackUptoSaid : Prop := frameBackUptoRow.holds Try.pinned (OpenSpec.upto frameBackSpec)

/-- 'aqueductlaw07.FrameShort', WHERE WHAT IT READS IS OF BULK AT MOST 1048576: true; the input reads as it did. -/
def frameShortUptoRow : OpenClaim := { program := "ytkmcakneceagpaa", sum := "4da6c51b212013207a823799903150bcb5b35edc4d70a3d608965dc9276e5f12", func := "aqueduct/aqueductlaw07.FrameShort", spec := "frameShort", unfollowed := true, recurses := true, apart := false, narrowed := true }
def FrameShortUptoSaid : Prop := frameShortUptoRow.holds Try.pinned (OpenSpec.upto frameShortSpec)

/-- 'aqueductlaw07.FrameAgain', WHERE WHAT IT READS IS OF BULK AT MOST 1048576: true; the input reads as it did. -/
def frameAgainUptoRow : OpenClaim := { program := "ytkmcakneceagpaa", sum := "4da6c51b212013207a823799903150bcb5b35edc4d70a3d608965dc9276e5f12", func := "aqueduct/aqueductlaw07.FrameAgain", spec := "frameAgain", unfollowed := true, recurses := true, apart := false, narrowed := true }
def FrameAgainUptoSaid : Prop := frameAgainUptoRow.holds Try.pinned (OpenSpec.upto frameAgainSpec)

/-- 'aqueductlaw07.FramePads', WHERE WHAT IT READS IS OF BULK AT MOST 1048576: true; the input reads as it did. -/
def framePadsUptoRow : OpenClaim := { program := "ytkmcakneceagpaa", sum := "4da6c51b212013207a823799903150bcb5b35edc4d70a3d608965dc9276e5f12", func := "aqueduct/aqueductlaw07.FramePads", spec := "framePads", unfollowed := true, recurses := true, apart := false, narrowed := true }
def FramePadsUptoSaid : Prop := framePadsUptoRow.holds Try.pinned (OpenSpec.upto framePadsSpec)

/-- 'aqueductlaw08.ReaderZero', WHERE WHAT IT READS IS OF BULK AT MOST 1048576: true; the input reads as it did. -/
def readerZeroUptoRow : OpenClaim := { program := "ytkmcakneceagpaa", sum := "4da6c51b212013207a823799903150bcb5b35edc4d70a3d608965dc9276e5f12", func := "aqueduct/aqueductlaw08.ReaderZero", spec := "readerZero", unfollowed := true, recurses := true, apart := false, narrowed := true }
def ReaderZeroUptoSaid : Prop := readerZeroUptoRow.holds Try.pinned (OpenSpec.upto readerZeroSpec)

/-- 'aqueductlaw08.ReaderFails', WHERE WHAT IT READS IS OF BULK AT MOST 1048576: true; the input reads as it did. -/
def readerFailsUptoRow : OpenClaim := { program := "ytkmcakneceagpaa", sum := "4da6c51b212013207a823799903150bcb5b35edc4d70a3d608965dc9276e5f12", func := "aqueduct/aqueductlaw08.ReaderFails", spec := "readerFails", unfollowed := true, recurses := true, apart := false, narrowed := true }
def ReaderFailsUptoSaid : Prop := readerFailsUptoRow.holds Try.pinned (OpenSpec.upto readerFailsSpec)

/-- 'aqueductlaw08.ReaderChunks', WHERE WHAT IT READS IS OF BULK AT MOST 1048576: true; the input reads as it did. -/
def readerChunksUptoRow : OpenClaim := { program := "ytkmcakneceagpaa", sum := "4da6c51b212013207a823799903150bcb5b35edc4d70a3d608965dc9276e5f12", func := "aqueduct/aqueductlaw08.ReaderChunks", spec := "readerChunks", unfollowed := true, recurses := true, apart := false, narrowed := true }
def ReaderChunksUptoSaid : Prop := readerChunksUptoRow.holds Try.pinned (OpenSpec.upto readerChunksSpec)

/-- 'aqueductlaw08.ReaderPlays', WHERE WHAT IT READS IS OF BULK AT MOST 1048576: true; the input reads as it did. -/
def readerPlaysUptoRow : OpenClaim := { program := "ytkmcakneceagpaa", sum := "4da6c51b212013207a823799903150bcb5b35edc4d70a3d608965dc9276e5f12", func := "aqueduct/aqueductlaw08.ReaderPlays", spec := "readerPlays", unfollowed := true, recurses := true, apart := false, narrowed := true }
def ReaderPlaysUptoSaid : Prop := readerPlaysUptoRow.holds Try.pinned (OpenSpec.upto readerPlaysSpec)

/-- 'aqueductlaw08.ReaderFrames', WHERE WHAT IT READS IS OF BULK AT MOST 1048576: true; the input reads as it did. -/
def readerFramesUptoRow : OpenClaim := { program := "ytkmcakneceagpaa", sum := "4da6c51b212013207a823799903150bcb5b35edc4d70a3d608965dc9276e5f12", func := "aqueduct/aqueductlaw08.ReaderFrames", spec := "readerFrames", unfollowed := true, recurses := true, apart := false, narrowed := true }
def ReaderFramesUptoSaid : Prop := readerFramesUptoRow.holds Try.pinned (OpenSpec.upto readerFramesSpec)

end Rows
end Go.Proofs.Ytkmcakneceagpaa
