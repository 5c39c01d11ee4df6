/-
  The laws' struct arguments: for each type its Lean structure, its cells, and the reading.
-/
import Derived.Test.YtgebopmiefgdoaaBase
import Derived.KernelRfl
namespace Go.Proofs.Ytgebopmiefgdoaa
open Go.RowKit Go.WideShapes Go.ChangeShapes Go.Deep
set_option linter.unusedVariables false
def int64Cell (n : Int) : List Value := [.int .i64 n]
def int64Good (n : Int) : Prop := IntKind.i64.min ≤ n ∧ n ≤ IntKind.i64.max
theorem dec_int64 (W : World) : Dec Try.prog W 3 Int int64Cell int64Good := dec_int Try.underlying3
theorem int64Cell_len (n : Int) : (int64Cell n).length = 1 := rfl
def u8Cell (n : Int) : List Value := [.int .u8 n]
def u8Good (n : Int) : Prop := IntKind.u8.min ≤ n ∧ n ≤ IntKind.u8.max
theorem dec_u8 (W : World) : Dec Try.prog W 5 Int u8Cell u8Good := dec_int Try.underlying5
theorem u8Cell_len (n : Int) : (u8Cell n).length = 1 := rfl
def u16Cell (n : Int) : List Value := [.int .u16 n]
def u16Good (n : Int) : Prop := IntKind.u16.min ≤ n ∧ n ≤ IntKind.u16.max
theorem dec_u16 (W : World) : Dec Try.prog W 22 Int u16Cell u16Good := dec_int Try.underlying22
theorem u16Cell_len (n : Int) : (u16Cell n).length = 1 := rfl
def boolCell (b : Bool) : List Value := [.bool b]
def boolGood (_ : Bool) : Prop := True
theorem dec_boolC (W : World) : Dec Try.prog W 4 Bool boolCell boolGood := dec_bool Try.underlying4
theorem boolCell_len (n : Bool) : (boolCell n).length = 1 := rfl

/-! ### api.Rec -/
structure Rec where
  addr : Int
  data : Int
  read : Bool
  ba : Bool
  bs : Bool
  lic : Bool
  avma : Bool
  busy : Bool
  mine : Bool
def Rec.cells (r : Rec) : List Value := [.int .u16 r.addr, .int .u8 r.data, .bool r.read, .bool r.ba, .bool r.bs, .bool r.lic, .bool r.avma, .bool r.busy, .bool r.mine]
theorem Rec.cells_len (r : Rec) : r.cells.length = 9 := rfl
structure Rec.Good (r : Rec) : Prop where
  addr : IntKind.u16.min ≤ r.addr ∧ r.addr ≤ IntKind.u16.max
  data : IntKind.u8.min ≤ r.data ∧ r.data ≤ IntKind.u8.max
  read : True
  ba : True
  bs : True
  lic : True
  avma : True
  busy : True
  mine : True
theorem dec_Rec (W : World) : Dec Try.prog W 64 Rec Rec.cells (Rec.Good) := fun H enc fuel cs x h => by
  obtain ⟨hl, hf⟩ := dec_struct Try.underlying64 (by kernel_rfl) (by kernel_rfl) h
  match cs, hl with
  | [c0, c1, c2, c3, c4, c5, c6, c7, c8], _ =>
    obtain ⟨n0, y0, h0⟩ := hf 0 _ c0 rfl rfl
    obtain ⟨b0, e0, g0⟩ := dec_int Try.underlying22 H enc _ _ _ h0
    obtain rfl := (List.cons.inj e0).1
    obtain ⟨n1, y1, h1⟩ := hf 1 _ c1 rfl rfl
    obtain ⟨b1, e1, g1⟩ := dec_int Try.underlying5 H enc _ _ _ h1
    obtain rfl := (List.cons.inj e1).1
    obtain ⟨n2, y2, h2⟩ := hf 2 _ c2 rfl rfl
    obtain ⟨b2, e2, g2⟩ := dec_bool Try.underlying4 H enc _ _ _ h2
    obtain rfl := (List.cons.inj e2).1
    obtain ⟨n3, y3, h3⟩ := hf 3 _ c3 rfl rfl
    obtain ⟨b3, e3, g3⟩ := dec_bool Try.underlying4 H enc _ _ _ h3
    obtain rfl := (List.cons.inj e3).1
    obtain ⟨n4, y4, h4⟩ := hf 4 _ c4 rfl rfl
    obtain ⟨b4, e4, g4⟩ := dec_bool Try.underlying4 H enc _ _ _ h4
    obtain rfl := (List.cons.inj e4).1
    obtain ⟨n5, y5, h5⟩ := hf 5 _ c5 rfl rfl
    obtain ⟨b5, e5, g5⟩ := dec_bool Try.underlying4 H enc _ _ _ h5
    obtain rfl := (List.cons.inj e5).1
    obtain ⟨n6, y6, h6⟩ := hf 6 _ c6 rfl rfl
    obtain ⟨b6, e6, g6⟩ := dec_bool Try.underlying4 H enc _ _ _ h6
    obtain rfl := (List.cons.inj e6).1
    obtain ⟨n7, y7, h7⟩ := hf 7 _ c7 rfl rfl
    obtain ⟨b7, e7, g7⟩ := dec_bool Try.underlying4 H enc _ _ _ h7
    obtain rfl := (List.cons.inj e7).1
    obtain ⟨n8, y8, h8⟩ := hf 8 _ c8 rfl rfl
    obtain ⟨b8, e8, g8⟩ := dec_bool Try.underlying4 H enc _ _ _ h8
    obtain rfl := (List.cons.inj e8).1
    exact ⟨⟨b0, b1, b2, b3, b4, b5, b6, b7, b8⟩, rfl, ⟨g0, g1, g2, g3, g4, g5, g6, g7, g8⟩⟩

/-! ### api.Config -/
structure Config where
  kind : Int
  rom : Int
def Config.cells (r : Config) : List Value := [.int .i64 r.kind, .int .i64 r.rom]
theorem Config.cells_len (r : Config) : r.cells.length = 2 := rfl
structure Config.Good (r : Config) : Prop where
  kind : IntKind.i64.min ≤ r.kind ∧ r.kind ≤ IntKind.i64.max
  rom : IntKind.i64.min ≤ r.rom ∧ r.rom ≤ IntKind.i64.max
theorem dec_Config (W : World) : Dec Try.prog W 98 Config Config.cells (Config.Good) := fun H enc fuel cs x h => by
  obtain ⟨hl, hf⟩ := dec_struct Try.underlying98 (by kernel_rfl) (by kernel_rfl) h
  match cs, hl with
  | [c0, c1], _ =>
    obtain ⟨n0, y0, h0⟩ := hf 0 _ c0 rfl rfl
    obtain ⟨b0, e0, g0⟩ := dec_int Try.underlying3 H enc _ _ _ h0
    obtain rfl := (List.cons.inj e0).1
    obtain ⟨n1, y1, h1⟩ := hf 1 _ c1 rfl rfl
    obtain ⟨b1, e1, g1⟩ := dec_int Try.underlying3 H enc _ _ _ h1
    obtain rfl := (List.cons.inj e1).1
    exact ⟨⟨b0, b1⟩, rfl, ⟨g0, g1⟩⟩

/-! ### spinetlaw58.Op -/
structure RingOp where
  clear : Bool
  l : Sl Rec
def RingOp.cells (r : RingOp) : List Value := [.bool r.clear, r.l.v]
theorem RingOp.cells_len (r : RingOp) : r.cells.length = 2 := rfl
structure RingOp.Good (W : World) (r : RingOp) : Prop where
  clear : True
  l : r.l.Good W 9 Rec.cells Rec.Good
theorem dec_RingOp (W : World) : Dec Try.prog W 60 RingOp RingOp.cells (RingOp.Good W) := fun H enc fuel cs x h => by
  obtain ⟨hl, hf⟩ := dec_struct Try.underlying60 (by kernel_rfl) (by kernel_rfl) h
  match cs, hl with
  | [c0, c1], _ =>
    obtain ⟨n0, y0, h0⟩ := hf 0 _ c0 rfl rfl
    obtain ⟨b0, e0, g0⟩ := dec_bool Try.underlying4 H enc _ _ _ h0
    obtain rfl := (List.cons.inj e0).1
    obtain ⟨n1, y1, h1⟩ := hf 1 _ c1 rfl rfl
    obtain ⟨b1, e1, g1⟩ := dec_slice (size := 9) Try.underlying57 (by kernel_rfl) (by decide) (fun _ => rfl) (dec_Rec W) H enc _ _ _ h1
    obtain rfl := (List.cons.inj e1).1
    exact ⟨⟨b0, b1⟩, rfl, ⟨g0, g1⟩⟩

/-! ### spinetlaw21.Op -/
structure QueueOp where
  kind : Int
  l : Sl Int
def QueueOp.cells (r : QueueOp) : List Value := [.int .i64 r.kind, r.l.v]
theorem QueueOp.cells_len (r : QueueOp) : r.cells.length = 2 := rfl
structure QueueOp.Good (W : World) (r : QueueOp) : Prop where
  kind : IntKind.i64.min ≤ r.kind ∧ r.kind ≤ IntKind.i64.max
  l : r.l.Good W 1 int64Cell int64Good
theorem dec_QueueOp (W : World) : Dec Try.prog W 90 QueueOp QueueOp.cells (QueueOp.Good W) := fun H enc fuel cs x h => by
  obtain ⟨hl, hf⟩ := dec_struct Try.underlying90 (by kernel_rfl) (by kernel_rfl) h
  match cs, hl with
  | [c0, c1], _ =>
    obtain ⟨n0, y0, h0⟩ := hf 0 _ c0 rfl rfl
    obtain ⟨b0, e0, g0⟩ := dec_int Try.underlying3 H enc _ _ _ h0
    obtain rfl := (List.cons.inj e0).1
    obtain ⟨n1, y1, h1⟩ := hf 1 _ c1 rfl rfl
    obtain ⟨b1, e1, g1⟩ := dec_slice (size := 1) Try.underlying83 (by kernel_rfl) (by decide) (fun _ => rfl) (dec_int64 W) H enc _ _ _ h1
    obtain rfl := (List.cons.inj e1).1
    exact ⟨⟨b0, b1⟩, rfl, ⟨g0, g1⟩⟩

/-! ### spinetlaw32.Op -/
structure RamOp where
  kind : Int
  at_ : Int
  b : Sl Int
def RamOp.cells (r : RamOp) : List Value := [.int .i64 r.kind, .int .i64 r.at_, r.b.v]
theorem RamOp.cells_len (r : RamOp) : r.cells.length = 3 := rfl
structure RamOp.Good (W : World) (r : RamOp) : Prop where
  kind : IntKind.i64.min ≤ r.kind ∧ r.kind ≤ IntKind.i64.max
  at_ : IntKind.i64.min ≤ r.at_ ∧ r.at_ ≤ IntKind.i64.max
  b : r.b.Good W 1 u8Cell u8Good
theorem dec_RamOp (W : World) : Dec Try.prog W 119 RamOp RamOp.cells (RamOp.Good W) := fun H enc fuel cs x h => by
  obtain ⟨hl, hf⟩ := dec_struct Try.underlying119 (by kernel_rfl) (by kernel_rfl) h
  match cs, hl with
  | [c0, c1, c2], _ =>
    obtain ⟨n0, y0, h0⟩ := hf 0 _ c0 rfl rfl
    obtain ⟨b0, e0, g0⟩ := dec_int Try.underlying3 H enc _ _ _ h0
    obtain rfl := (List.cons.inj e0).1
    obtain ⟨n1, y1, h1⟩ := hf 1 _ c1 rfl rfl
    obtain ⟨b1, e1, g1⟩ := dec_int Try.underlying3 H enc _ _ _ h1
    obtain rfl := (List.cons.inj e1).1
    obtain ⟨n2, y2, h2⟩ := hf 2 _ c2 rfl rfl
    obtain ⟨b2, e2, g2⟩ := dec_slice (size := 1) Try.underlying37 (by kernel_rfl) (by decide) (fun _ => rfl) (dec_u8 W) H enc _ _ _ h2
    obtain rfl := (List.cons.inj e2).1
    exact ⟨⟨b0, b1, b2⟩, rfl, ⟨g0, g1, g2⟩⟩
end Go.Proofs.Ytgebopmiefgdoaa
