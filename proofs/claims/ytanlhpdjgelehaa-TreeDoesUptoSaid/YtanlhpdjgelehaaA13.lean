/- A logic of abstract states, part 13: the rules of part 11 for a region whose order is open (by program off part 11). Conditions: each rule's own premises; over any program. -/
import Derived.Test.YtanlhpdjgelehaaA12
namespace Go.Abs
set_option linter.unusedVariables false
set_option linter.unusedSimpArgs false

theorem LW.out {P : Program} {c : Ctx} {st : St} {ops : Array Oper} {Q : Exit → Act → World → Prop} {l : List Oper} (h : LW P c st ops Q l) : L c st (wpList P ops Q l) := by unfold LW at h; exact h

section
variable {P : Program} {c : Ctx} {fr : List (Nat × AV)} {bx : List (Nat × Box)} {tk : List (Nat × Tok)} {ops : Array Oper} {Q : Exit → Act → World → Prop} {rest : List Oper}
  {d : Nat} {ty : TypeId} {pos : String} {aft : Array Edge} {st0 : St} {done : List Eff}

theorem LW.is {P : Program} {c : Ctx} {st : St} {ops : Array Oper} {Q : Exit → Act → World → Prop} {l : List Oper} (h : LW P c st ops Q l) : LW P c st ops Q l := h
theorem DR.is {P : Program} {c : Ctx} {st0 st : St} {done : List Eff} {ops : Array Oper} {Q : Exit → Act → World → Prop} {l : List Oper} (h : DR P c ops Q st0 done st l) : DR P c ops Q st0 done st l := h

theorem agP {o : Oper} {e : Eff} {st st' : St} (hag : Agr ops o e st st') {parts : Array (Nat × Operand)} (h : ∀ x ∈ parts, x.2 ∈ o.op.operands) :
    (parts.toList.map fun x => (x.1, st'.ev x.2)) = parts.toList.map fun x => (x.1, st.ev x.2) :=
  List.map_congr_left fun x hx => by rw [hag.ev x.2 (h x (by simpa using hx))]
theorem agL {o : Oper} {e : Eff} {st st' : St} (hag : Agr ops o e st st') {args : Array Operand} (h : ∀ x ∈ args, x ∈ o.op.operands) :
    (args.toList.map st'.ev) = args.toList.map st.ev :=
  List.map_congr_left fun x hx => hag.ev x (h x (by simpa using hx))

theorem d_mvIv {x : Operand} {y : IV} (hlt : Nat.ble (d + 1) c.nt = true) (hx : St.ev ⟨fr, bx, tk⟩ x = .iv y)
    (h : DR P c ops Q st0 (⟨some (d, .iv y), [], [], [], [], [], []⟩ :: done) ⟨(d, .iv y) :: fr, bx, tk⟩ rest) : DR P c ops Q st0 done ⟨fr, bx, tk⟩ (⟨some d, .move x, ty, pos, aft, none⟩ :: rest) :=
  DR.cons (e := ⟨some (d, .iv y), [], [], [], [], [], []⟩) (fun st' hag Q' hL => LW.out (s_mvIv (fr := st'.fr) (bx := st'.bx) (tk := st'.tk) hlt ((hag.ev x (by simp [Op.operands, Call.operands])).trans hx) (s_nil hL))) h

theorem d_mvRow {x : Operand} {id : Nat} {es : List (List IV)} (hlt : Nat.ble (d + 1) c.nt = true) (hx : St.ev ⟨fr, bx, tk⟩ x = .row id es)
    (h : DR P c ops Q st0 (⟨some (d, .row id es), [], [], [], [], [], []⟩ :: done) ⟨(d, .row id es) :: fr, bx, tk⟩ rest) : DR P c ops Q st0 done ⟨fr, bx, tk⟩ (⟨some d, .move x, ty, pos, aft, none⟩ :: rest) :=
  DR.cons (e := ⟨some (d, .row id es), [], [], [], [], [], []⟩) (fun st' hag Q' hL => LW.out (s_mvRow (fr := st'.fr) (bx := st'.bx) (tk := st'.tk) hlt ((hag.ev x (by simp [Op.operands, Call.operands])).trans hx) (s_nil hL))) h

theorem d_mvPtr {x : Operand} {id off : Nat} (hlt : Nat.ble (d + 1) c.nt = true) (hx : St.ev ⟨fr, bx, tk⟩ x = .ptr id off)
    (h : DR P c ops Q st0 (⟨some (d, .ptr id off), [], [], [], [], [], []⟩ :: done) ⟨(d, .ptr id off) :: fr, bx, tk⟩ rest) : DR P c ops Q st0 done ⟨fr, bx, tk⟩ (⟨some d, .move x, ty, pos, aft, none⟩ :: rest) :=
  DR.cons (e := ⟨some (d, .ptr id off), [], [], [], [], [], []⟩) (fun st' hag Q' hL => LW.out (s_mvPtr (fr := st'.fr) (bx := st'.bx) (tk := st'.tk) hlt ((hag.ev x (by simp [Op.operands, Call.operands])).trans hx) (s_nil hL))) h

theorem d_mvAgg {x : Operand} {cs : List AV} (hlt : Nat.ble (d + 1) c.nt = true) (hx : St.ev ⟨fr, bx, tk⟩ x = .agg cs)
    (h : DR P c ops Q st0 (⟨some (d, .agg cs), [], [], [], [], [], []⟩ :: done) ⟨(d, .agg cs) :: fr, bx, tk⟩ rest) : DR P c ops Q st0 done ⟨fr, bx, tk⟩ (⟨some d, .move x, ty, pos, aft, none⟩ :: rest) :=
  DR.cons (e := ⟨some (d, .agg cs), [], [], [], [], [], []⟩) (fun st' hag Q' hL => LW.out (s_mvAgg (fr := st'.fr) (bx := st'.bx) (tk := st'.tk) hlt ((hag.ev x (by simp [Op.operands, Call.operands])).trans hx) (s_nil hL))) h

theorem d_mvEl {x : Operand} {cs : List IV} (hlt : Nat.ble (d + 1) c.nt = true) (hx : St.ev ⟨fr, bx, tk⟩ x = .el cs)
    (h : DR P c ops Q st0 (⟨some (d, .el cs), [], [], [], [], [], []⟩ :: done) ⟨(d, .el cs) :: fr, bx, tk⟩ rest) : DR P c ops Q st0 done ⟨fr, bx, tk⟩ (⟨some d, .move x, ty, pos, aft, none⟩ :: rest) :=
  DR.cons (e := ⟨some (d, .el cs), [], [], [], [], [], []⟩) (fun st' hag Q' hL => LW.out (s_mvEl (fr := st'.fr) (bx := st'.bx) (tk := st'.tk) hlt ((hag.ev x (by simp [Op.operands, Call.operands])).trans hx) (s_nil hL))) h

theorem d_mvNil {x : Operand} (hlt : Nat.ble (d + 1) c.nt = true) (hx : St.ev ⟨fr, bx, tk⟩ x = .nils)
    (h : DR P c ops Q st0 (⟨some (d, .nils), [], [], [], [], [], []⟩ :: done) ⟨(d, .nils) :: fr, bx, tk⟩ rest) : DR P c ops Q st0 done ⟨fr, bx, tk⟩ (⟨some d, .move x, ty, pos, aft, none⟩ :: rest) :=
  DR.cons (e := ⟨some (d, .nils), [], [], [], [], [], []⟩) (fun st' hag Q' hL => LW.out (s_mvNil (fr := st'.fr) (bx := st'.bx) (tk := st'.tk) hlt ((hag.ev x (by simp [Op.operands, Call.operands])).trans hx) (s_nil hL))) h

theorem d_mvTup {x : Operand} {vs : List AV} (hlt : Nat.ble (d + 1) c.nt = true) (hx : St.ev ⟨fr, bx, tk⟩ x = .tup vs)
    (h : DR P c ops Q st0 (⟨some (d, .tup vs), [], [], [], [], [], []⟩ :: done) ⟨(d, .tup vs) :: fr, bx, tk⟩ rest) : DR P c ops Q st0 done ⟨fr, bx, tk⟩ (⟨some d, .move x, ty, pos, aft, none⟩ :: rest) :=
  DR.cons (e := ⟨some (d, .tup vs), [], [], [], [], [], []⟩) (fun st' hag Q' hL => LW.out (s_mvTup (fr := st'.fr) (bx := st'.bx) (tk := st'.tk) hlt ((hag.ev x (by simp [Op.operands, Call.operands])).trans hx) (s_nil hL))) h

theorem d_mvFn {x : Operand} {f : FuncId} {cs : List AV} (hlt : Nat.ble (d + 1) c.nt = true) (hx : St.ev ⟨fr, bx, tk⟩ x = .fn f cs)
    (h : DR P c ops Q st0 (⟨some (d, .fn f cs), [], [], [], [], [], []⟩ :: done) ⟨(d, .fn f cs) :: fr, bx, tk⟩ rest) : DR P c ops Q st0 done ⟨fr, bx, tk⟩ (⟨some d, .move x, ty, pos, aft, none⟩ :: rest) :=
  DR.cons (e := ⟨some (d, .fn f cs), [], [], [], [], [], []⟩) (fun st' hag Q' hL => LW.out (s_mvFn (fr := st'.fr) (bx := st'.bx) (tk := st'.tk) hlt ((hag.ev x (by simp [Op.operands, Call.operands])).trans hx) (s_nil hL))) h

theorem d_mvAny {x : Operand} (hlt : Nat.ble (d + 1) c.nt = true) (hx : St.ev ⟨fr, bx, tk⟩ x = .any)
    (h : DR P c ops Q st0 (⟨some (d, .any), [], [], [], [], [], []⟩ :: done) ⟨(d, .any) :: fr, bx, tk⟩ rest) : DR P c ops Q st0 done ⟨fr, bx, tk⟩ (⟨some d, .move x, ty, pos, aft, none⟩ :: rest) :=
  DR.cons (e := ⟨some (d, .any), [], [], [], [], [], []⟩) (fun st' hag Q' hL => LW.out (s_mvAny (fr := st'.fr) (bx := st'.bx) (tk := st'.tk) hlt ((hag.ev x (by simp [Op.operands, Call.operands])).trans hx) (s_nil hL))) h

theorem d_asIv {x : Operand} {y : IV} (hlt : Nat.ble (d + 1) c.nt = true) (hx : St.ev ⟨fr, bx, tk⟩ x = .iv y)
    (h : DR P c ops Q st0 (⟨some (d, .iv y), [], [], [], [], [], []⟩ :: done) ⟨(d, .iv y) :: fr, bx, tk⟩ rest) : DR P c ops Q st0 done ⟨fr, bx, tk⟩ (⟨some d, .assign x, ty, pos, aft, none⟩ :: rest) :=
  DR.cons (e := ⟨some (d, .iv y), [], [], [], [], [], []⟩) (fun st' hag Q' hL => LW.out (s_asIv (fr := st'.fr) (bx := st'.bx) (tk := st'.tk) hlt ((hag.ev x (by simp [Op.operands, Call.operands])).trans hx) (s_nil hL))) h

theorem d_asRow {x : Operand} {id : Nat} {es : List (List IV)} (hlt : Nat.ble (d + 1) c.nt = true) (hx : St.ev ⟨fr, bx, tk⟩ x = .row id es)
    (h : DR P c ops Q st0 (⟨some (d, .row id es), [], [], [], [], [], []⟩ :: done) ⟨(d, .row id es) :: fr, bx, tk⟩ rest) : DR P c ops Q st0 done ⟨fr, bx, tk⟩ (⟨some d, .assign x, ty, pos, aft, none⟩ :: rest) :=
  DR.cons (e := ⟨some (d, .row id es), [], [], [], [], [], []⟩) (fun st' hag Q' hL => LW.out (s_asRow (fr := st'.fr) (bx := st'.bx) (tk := st'.tk) hlt ((hag.ev x (by simp [Op.operands, Call.operands])).trans hx) (s_nil hL))) h

theorem d_asPtr {x : Operand} {id off : Nat} (hlt : Nat.ble (d + 1) c.nt = true) (hx : St.ev ⟨fr, bx, tk⟩ x = .ptr id off)
    (h : DR P c ops Q st0 (⟨some (d, .ptr id off), [], [], [], [], [], []⟩ :: done) ⟨(d, .ptr id off) :: fr, bx, tk⟩ rest) : DR P c ops Q st0 done ⟨fr, bx, tk⟩ (⟨some d, .assign x, ty, pos, aft, none⟩ :: rest) :=
  DR.cons (e := ⟨some (d, .ptr id off), [], [], [], [], [], []⟩) (fun st' hag Q' hL => LW.out (s_asPtr (fr := st'.fr) (bx := st'.bx) (tk := st'.tk) hlt ((hag.ev x (by simp [Op.operands, Call.operands])).trans hx) (s_nil hL))) h

theorem d_asAgg {x : Operand} {cs : List AV} (hlt : Nat.ble (d + 1) c.nt = true) (hx : St.ev ⟨fr, bx, tk⟩ x = .agg cs)
    (h : DR P c ops Q st0 (⟨some (d, .agg cs), [], [], [], [], [], []⟩ :: done) ⟨(d, .agg cs) :: fr, bx, tk⟩ rest) : DR P c ops Q st0 done ⟨fr, bx, tk⟩ (⟨some d, .assign x, ty, pos, aft, none⟩ :: rest) :=
  DR.cons (e := ⟨some (d, .agg cs), [], [], [], [], [], []⟩) (fun st' hag Q' hL => LW.out (s_asAgg (fr := st'.fr) (bx := st'.bx) (tk := st'.tk) hlt ((hag.ev x (by simp [Op.operands, Call.operands])).trans hx) (s_nil hL))) h

theorem d_asEl {x : Operand} {cs : List IV} (hlt : Nat.ble (d + 1) c.nt = true) (hx : St.ev ⟨fr, bx, tk⟩ x = .el cs)
    (h : DR P c ops Q st0 (⟨some (d, .el cs), [], [], [], [], [], []⟩ :: done) ⟨(d, .el cs) :: fr, bx, tk⟩ rest) : DR P c ops Q st0 done ⟨fr, bx, tk⟩ (⟨some d, .assign x, ty, pos, aft, none⟩ :: rest) :=
  DR.cons (e := ⟨some (d, .el cs), [], [], [], [], [], []⟩) (fun st' hag Q' hL => LW.out (s_asEl (fr := st'.fr) (bx := st'.bx) (tk := st'.tk) hlt ((hag.ev x (by simp [Op.operands, Call.operands])).trans hx) (s_nil hL))) h

theorem d_asNil {x : Operand} (hlt : Nat.ble (d + 1) c.nt = true) (hx : St.ev ⟨fr, bx, tk⟩ x = .nils)
    (h : DR P c ops Q st0 (⟨some (d, .nils), [], [], [], [], [], []⟩ :: done) ⟨(d, .nils) :: fr, bx, tk⟩ rest) : DR P c ops Q st0 done ⟨fr, bx, tk⟩ (⟨some d, .assign x, ty, pos, aft, none⟩ :: rest) :=
  DR.cons (e := ⟨some (d, .nils), [], [], [], [], [], []⟩) (fun st' hag Q' hL => LW.out (s_asNil (fr := st'.fr) (bx := st'.bx) (tk := st'.tk) hlt ((hag.ev x (by simp [Op.operands, Call.operands])).trans hx) (s_nil hL))) h

theorem d_asTup {x : Operand} {vs : List AV} (hlt : Nat.ble (d + 1) c.nt = true) (hx : St.ev ⟨fr, bx, tk⟩ x = .tup vs)
    (h : DR P c ops Q st0 (⟨some (d, .tup vs), [], [], [], [], [], []⟩ :: done) ⟨(d, .tup vs) :: fr, bx, tk⟩ rest) : DR P c ops Q st0 done ⟨fr, bx, tk⟩ (⟨some d, .assign x, ty, pos, aft, none⟩ :: rest) :=
  DR.cons (e := ⟨some (d, .tup vs), [], [], [], [], [], []⟩) (fun st' hag Q' hL => LW.out (s_asTup (fr := st'.fr) (bx := st'.bx) (tk := st'.tk) hlt ((hag.ev x (by simp [Op.operands, Call.operands])).trans hx) (s_nil hL))) h

theorem d_asFn {x : Operand} {f : FuncId} {cs : List AV} (hlt : Nat.ble (d + 1) c.nt = true) (hx : St.ev ⟨fr, bx, tk⟩ x = .fn f cs)
    (h : DR P c ops Q st0 (⟨some (d, .fn f cs), [], [], [], [], [], []⟩ :: done) ⟨(d, .fn f cs) :: fr, bx, tk⟩ rest) : DR P c ops Q st0 done ⟨fr, bx, tk⟩ (⟨some d, .assign x, ty, pos, aft, none⟩ :: rest) :=
  DR.cons (e := ⟨some (d, .fn f cs), [], [], [], [], [], []⟩) (fun st' hag Q' hL => LW.out (s_asFn (fr := st'.fr) (bx := st'.bx) (tk := st'.tk) hlt ((hag.ev x (by simp [Op.operands, Call.operands])).trans hx) (s_nil hL))) h

theorem d_asAny {x : Operand} (hlt : Nat.ble (d + 1) c.nt = true) (hx : St.ev ⟨fr, bx, tk⟩ x = .any)
    (h : DR P c ops Q st0 (⟨some (d, .any), [], [], [], [], [], []⟩ :: done) ⟨(d, .any) :: fr, bx, tk⟩ rest) : DR P c ops Q st0 done ⟨fr, bx, tk⟩ (⟨some d, .assign x, ty, pos, aft, none⟩ :: rest) :=
  DR.cons (e := ⟨some (d, .any), [], [], [], [], [], []⟩) (fun st' hag Q' hL => LW.out (s_asAny (fr := st'.fr) (bx := st'.bx) (tk := st'.tk) hlt ((hag.ev x (by simp [Op.operands, Call.operands])).trans hx) (s_nil hL))) h

theorem d_addI {x y : Operand} {t t' : TypeId} {m n : Int} (hlt : Nat.ble (d + 1) c.nt = true) (hx : St.ev ⟨fr, bx, tk⟩ x = aI m) (hy : St.ev ⟨fr, bx, tk⟩ y = aI n) (hlo : -9223372036854775808 ≤ m + n) (hhi : m + n ≤ 9223372036854775807)
    (h : DR P c ops Q st0 (⟨some (d, aI (m + n)), [], [], [], [], [], []⟩ :: done) ⟨(d, aI (m + n)) :: fr, bx, tk⟩ rest) : DR P c ops Q st0 done ⟨fr, bx, tk⟩ (⟨some d, .binOp .add t x y t', ty, pos, aft, none⟩ :: rest) :=
  DR.cons (e := ⟨some (d, aI (m + n)), [], [], [], [], [], []⟩) (fun st' hag Q' hL => LW.out (s_addI (fr := st'.fr) (bx := st'.bx) (tk := st'.tk) hlt ((hag.ev x (by simp [Op.operands, Call.operands])).trans hx) ((hag.ev y (by simp [Op.operands, Call.operands])).trans hy) hlo hhi (s_nil hL))) h

theorem d_subI {x y : Operand} {t t' : TypeId} {m n : Int} (hlt : Nat.ble (d + 1) c.nt = true) (hx : St.ev ⟨fr, bx, tk⟩ x = aI m) (hy : St.ev ⟨fr, bx, tk⟩ y = aI n) (hlo : -9223372036854775808 ≤ m - n) (hhi : m - n ≤ 9223372036854775807)
    (h : DR P c ops Q st0 (⟨some (d, aI (m - n)), [], [], [], [], [], []⟩ :: done) ⟨(d, aI (m - n)) :: fr, bx, tk⟩ rest) : DR P c ops Q st0 done ⟨fr, bx, tk⟩ (⟨some d, .binOp .sub t x y t', ty, pos, aft, none⟩ :: rest) :=
  DR.cons (e := ⟨some (d, aI (m - n)), [], [], [], [], [], []⟩) (fun st' hag Q' hL => LW.out (s_subI (fr := st'.fr) (bx := st'.bx) (tk := st'.tk) hlt ((hag.ev x (by simp [Op.operands, Call.operands])).trans hx) ((hag.ev y (by simp [Op.operands, Call.operands])).trans hy) hlo hhi (s_nil hL))) h

theorem d_mulI {x y : Operand} {t t' : TypeId} {m n : Int} (hlt : Nat.ble (d + 1) c.nt = true) (hx : St.ev ⟨fr, bx, tk⟩ x = aI m) (hy : St.ev ⟨fr, bx, tk⟩ y = aI n) (hlo : -9223372036854775808 ≤ m * n) (hhi : m * n ≤ 9223372036854775807)
    (h : DR P c ops Q st0 (⟨some (d, aI (m * n)), [], [], [], [], [], []⟩ :: done) ⟨(d, aI (m * n)) :: fr, bx, tk⟩ rest) : DR P c ops Q st0 done ⟨fr, bx, tk⟩ (⟨some d, .binOp .mul t x y t', ty, pos, aft, none⟩ :: rest) :=
  DR.cons (e := ⟨some (d, aI (m * n)), [], [], [], [], [], []⟩) (fun st' hag Q' hL => LW.out (s_mulI (fr := st'.fr) (bx := st'.bx) (tk := st'.tk) hlt ((hag.ev x (by simp [Op.operands, Call.operands])).trans hx) ((hag.ev y (by simp [Op.operands, Call.operands])).trans hy) hlo hhi (s_nil hL))) h

theorem d_eqlI {x y : Operand} {t t' : TypeId} {k : IntKind} {m n : Int} (hlt : Nat.ble (d + 1) c.nt = true) (hx : St.ev ⟨fr, bx, tk⟩ x = .iv (.im (.int k m))) (hy : St.ev ⟨fr, bx, tk⟩ y = .iv (.im (.int k n)))
    (h : DR P c ops Q st0 (⟨some (d, aB (m == n)), [], [], [], [], [], []⟩ :: done) ⟨(d, aB (m == n)) :: fr, bx, tk⟩ rest) : DR P c ops Q st0 done ⟨fr, bx, tk⟩ (⟨some d, .binOp .eql t x y t', ty, pos, aft, none⟩ :: rest) :=
  DR.cons (e := ⟨some (d, aB (m == n)), [], [], [], [], [], []⟩) (fun st' hag Q' hL => LW.out (s_eqlI (fr := st'.fr) (bx := st'.bx) (tk := st'.tk) hlt ((hag.ev x (by simp [Op.operands, Call.operands])).trans hx) ((hag.ev y (by simp [Op.operands, Call.operands])).trans hy) (s_nil hL))) h

theorem d_neqI {x y : Operand} {t t' : TypeId} {k : IntKind} {m n : Int} (hlt : Nat.ble (d + 1) c.nt = true) (hx : St.ev ⟨fr, bx, tk⟩ x = .iv (.im (.int k m))) (hy : St.ev ⟨fr, bx, tk⟩ y = .iv (.im (.int k n)))
    (h : DR P c ops Q st0 (⟨some (d, aB (m != n)), [], [], [], [], [], []⟩ :: done) ⟨(d, aB (m != n)) :: fr, bx, tk⟩ rest) : DR P c ops Q st0 done ⟨fr, bx, tk⟩ (⟨some d, .binOp .neq t x y t', ty, pos, aft, none⟩ :: rest) :=
  DR.cons (e := ⟨some (d, aB (m != n)), [], [], [], [], [], []⟩) (fun st' hag Q' hL => LW.out (s_neqI (fr := st'.fr) (bx := st'.bx) (tk := st'.tk) hlt ((hag.ev x (by simp [Op.operands, Call.operands])).trans hx) ((hag.ev y (by simp [Op.operands, Call.operands])).trans hy) (s_nil hL))) h

theorem d_lssI {x y : Operand} {t t' : TypeId} {k : IntKind} {m n : Int} (hlt : Nat.ble (d + 1) c.nt = true) (hx : St.ev ⟨fr, bx, tk⟩ x = .iv (.im (.int k m))) (hy : St.ev ⟨fr, bx, tk⟩ y = .iv (.im (.int k n)))
    (h : DR P c ops Q st0 (⟨some (d, aB (decide (m < n))), [], [], [], [], [], []⟩ :: done) ⟨(d, aB (decide (m < n))) :: fr, bx, tk⟩ rest) : DR P c ops Q st0 done ⟨fr, bx, tk⟩ (⟨some d, .binOp .lss t x y t', ty, pos, aft, none⟩ :: rest) :=
  DR.cons (e := ⟨some (d, aB (decide (m < n))), [], [], [], [], [], []⟩) (fun st' hag Q' hL => LW.out (s_lssI (fr := st'.fr) (bx := st'.bx) (tk := st'.tk) hlt ((hag.ev x (by simp [Op.operands, Call.operands])).trans hx) ((hag.ev y (by simp [Op.operands, Call.operands])).trans hy) (s_nil hL))) h

theorem d_leqI {x y : Operand} {t t' : TypeId} {k : IntKind} {m n : Int} (hlt : Nat.ble (d + 1) c.nt = true) (hx : St.ev ⟨fr, bx, tk⟩ x = .iv (.im (.int k m))) (hy : St.ev ⟨fr, bx, tk⟩ y = .iv (.im (.int k n)))
    (h : DR P c ops Q st0 (⟨some (d, aB (decide (m ≤ n))), [], [], [], [], [], []⟩ :: done) ⟨(d, aB (decide (m ≤ n))) :: fr, bx, tk⟩ rest) : DR P c ops Q st0 done ⟨fr, bx, tk⟩ (⟨some d, .binOp .leq t x y t', ty, pos, aft, none⟩ :: rest) :=
  DR.cons (e := ⟨some (d, aB (decide (m ≤ n))), [], [], [], [], [], []⟩) (fun st' hag Q' hL => LW.out (s_leqI (fr := st'.fr) (bx := st'.bx) (tk := st'.tk) hlt ((hag.ev x (by simp [Op.operands, Call.operands])).trans hx) ((hag.ev y (by simp [Op.operands, Call.operands])).trans hy) (s_nil hL))) h

theorem d_gtrI {x y : Operand} {t t' : TypeId} {k : IntKind} {m n : Int} (hlt : Nat.ble (d + 1) c.nt = true) (hx : St.ev ⟨fr, bx, tk⟩ x = .iv (.im (.int k m))) (hy : St.ev ⟨fr, bx, tk⟩ y = .iv (.im (.int k n)))
    (h : DR P c ops Q st0 (⟨some (d, aB (decide (n < m))), [], [], [], [], [], []⟩ :: done) ⟨(d, aB (decide (n < m))) :: fr, bx, tk⟩ rest) : DR P c ops Q st0 done ⟨fr, bx, tk⟩ (⟨some d, .binOp .gtr t x y t', ty, pos, aft, none⟩ :: rest) :=
  DR.cons (e := ⟨some (d, aB (decide (n < m))), [], [], [], [], [], []⟩) (fun st' hag Q' hL => LW.out (s_gtrI (fr := st'.fr) (bx := st'.bx) (tk := st'.tk) hlt ((hag.ev x (by simp [Op.operands, Call.operands])).trans hx) ((hag.ev y (by simp [Op.operands, Call.operands])).trans hy) (s_nil hL))) h

theorem d_geqI {x y : Operand} {t t' : TypeId} {k : IntKind} {m n : Int} (hlt : Nat.ble (d + 1) c.nt = true) (hx : St.ev ⟨fr, bx, tk⟩ x = .iv (.im (.int k m))) (hy : St.ev ⟨fr, bx, tk⟩ y = .iv (.im (.int k n)))
    (h : DR P c ops Q st0 (⟨some (d, aB (decide (n ≤ m))), [], [], [], [], [], []⟩ :: done) ⟨(d, aB (decide (n ≤ m))) :: fr, bx, tk⟩ rest) : DR P c ops Q st0 done ⟨fr, bx, tk⟩ (⟨some d, .binOp .geq t x y t', ty, pos, aft, none⟩ :: rest) :=
  DR.cons (e := ⟨some (d, aB (decide (n ≤ m))), [], [], [], [], [], []⟩) (fun st' hag Q' hL => LW.out (s_geqI (fr := st'.fr) (bx := st'.bx) (tk := st'.tk) hlt ((hag.ev x (by simp [Op.operands, Call.operands])).trans hx) ((hag.ev y (by simp [Op.operands, Call.operands])).trans hy) (s_nil hL))) h

theorem d_eqlS {x y : Operand} {t t' : TypeId} {m n : List UInt8} (hlt : Nat.ble (d + 1) c.nt = true) (hx : St.ev ⟨fr, bx, tk⟩ x = aS m) (hy : St.ev ⟨fr, bx, tk⟩ y = aS n)
    (h : DR P c ops Q st0 (⟨some (d, aB (m == n)), [], [], [], [], [], []⟩ :: done) ⟨(d, aB (m == n)) :: fr, bx, tk⟩ rest) : DR P c ops Q st0 done ⟨fr, bx, tk⟩ (⟨some d, .binOp .eql t x y t', ty, pos, aft, none⟩ :: rest) :=
  DR.cons (e := ⟨some (d, aB (m == n)), [], [], [], [], [], []⟩) (fun st' hag Q' hL => LW.out (s_eqlS (fr := st'.fr) (bx := st'.bx) (tk := st'.tk) hlt ((hag.ev x (by simp [Op.operands, Call.operands])).trans hx) ((hag.ev y (by simp [Op.operands, Call.operands])).trans hy) (s_nil hL))) h

theorem d_neqS {x y : Operand} {t t' : TypeId} {m n : List UInt8} (hlt : Nat.ble (d + 1) c.nt = true) (hx : St.ev ⟨fr, bx, tk⟩ x = aS m) (hy : St.ev ⟨fr, bx, tk⟩ y = aS n)
    (h : DR P c ops Q st0 (⟨some (d, aB (!(m == n))), [], [], [], [], [], []⟩ :: done) ⟨(d, aB (!(m == n))) :: fr, bx, tk⟩ rest) : DR P c ops Q st0 done ⟨fr, bx, tk⟩ (⟨some d, .binOp .neq t x y t', ty, pos, aft, none⟩ :: rest) :=
  DR.cons (e := ⟨some (d, aB (!(m == n))), [], [], [], [], [], []⟩) (fun st' hag Q' hL => LW.out (s_neqS (fr := st'.fr) (bx := st'.bx) (tk := st'.tk) hlt ((hag.ev x (by simp [Op.operands, Call.operands])).trans hx) ((hag.ev y (by simp [Op.operands, Call.operands])).trans hy) (s_nil hL))) h

theorem d_lssS {x y : Operand} {t t' : TypeId} {m n : List UInt8} (hlt : Nat.ble (d + 1) c.nt = true) (hx : St.ev ⟨fr, bx, tk⟩ x = aS m) (hy : St.ev ⟨fr, bx, tk⟩ y = aS n)
    (h : DR P c ops Q st0 (⟨some (d, aB (Op.bytesLess m n)), [], [], [], [], [], []⟩ :: done) ⟨(d, aB (Op.bytesLess m n)) :: fr, bx, tk⟩ rest) : DR P c ops Q st0 done ⟨fr, bx, tk⟩ (⟨some d, .binOp .lss t x y t', ty, pos, aft, none⟩ :: rest) :=
  DR.cons (e := ⟨some (d, aB (Op.bytesLess m n)), [], [], [], [], [], []⟩) (fun st' hag Q' hL => LW.out (s_lssS (fr := st'.fr) (bx := st'.bx) (tk := st'.tk) hlt ((hag.ev x (by simp [Op.operands, Call.operands])).trans hx) ((hag.ev y (by simp [Op.operands, Call.operands])).trans hy) (s_nil hL))) h

theorem d_leqS {x y : Operand} {t t' : TypeId} {m n : List UInt8} (hlt : Nat.ble (d + 1) c.nt = true) (hx : St.ev ⟨fr, bx, tk⟩ x = aS m) (hy : St.ev ⟨fr, bx, tk⟩ y = aS n)
    (h : DR P c ops Q st0 (⟨some (d, aB (Op.bytesLess m n || m == n)), [], [], [], [], [], []⟩ :: done) ⟨(d, aB (Op.bytesLess m n || m == n)) :: fr, bx, tk⟩ rest) : DR P c ops Q st0 done ⟨fr, bx, tk⟩ (⟨some d, .binOp .leq t x y t', ty, pos, aft, none⟩ :: rest) :=
  DR.cons (e := ⟨some (d, aB (Op.bytesLess m n || m == n)), [], [], [], [], [], []⟩) (fun st' hag Q' hL => LW.out (s_leqS (fr := st'.fr) (bx := st'.bx) (tk := st'.tk) hlt ((hag.ev x (by simp [Op.operands, Call.operands])).trans hx) ((hag.ev y (by simp [Op.operands, Call.operands])).trans hy) (s_nil hL))) h

theorem d_gtrS {x y : Operand} {t t' : TypeId} {m n : List UInt8} (hlt : Nat.ble (d + 1) c.nt = true) (hx : St.ev ⟨fr, bx, tk⟩ x = aS m) (hy : St.ev ⟨fr, bx, tk⟩ y = aS n)
    (h : DR P c ops Q st0 (⟨some (d, aB (!(Op.bytesLess m n || m == n))), [], [], [], [], [], []⟩ :: done) ⟨(d, aB (!(Op.bytesLess m n || m == n))) :: fr, bx, tk⟩ rest) : DR P c ops Q st0 done ⟨fr, bx, tk⟩ (⟨some d, .binOp .gtr t x y t', ty, pos, aft, none⟩ :: rest) :=
  DR.cons (e := ⟨some (d, aB (!(Op.bytesLess m n || m == n))), [], [], [], [], [], []⟩) (fun st' hag Q' hL => LW.out (s_gtrS (fr := st'.fr) (bx := st'.bx) (tk := st'.tk) hlt ((hag.ev x (by simp [Op.operands, Call.operands])).trans hx) ((hag.ev y (by simp [Op.operands, Call.operands])).trans hy) (s_nil hL))) h

theorem d_geqS {x y : Operand} {t t' : TypeId} {m n : List UInt8} (hlt : Nat.ble (d + 1) c.nt = true) (hx : St.ev ⟨fr, bx, tk⟩ x = aS m) (hy : St.ev ⟨fr, bx, tk⟩ y = aS n)
    (h : DR P c ops Q st0 (⟨some (d, aB (!(Op.bytesLess m n))), [], [], [], [], [], []⟩ :: done) ⟨(d, aB (!(Op.bytesLess m n))) :: fr, bx, tk⟩ rest) : DR P c ops Q st0 done ⟨fr, bx, tk⟩ (⟨some d, .binOp .geq t x y t', ty, pos, aft, none⟩ :: rest) :=
  DR.cons (e := ⟨some (d, aB (!(Op.bytesLess m n))), [], [], [], [], [], []⟩) (fun st' hag Q' hL => LW.out (s_geqS (fr := st'.fr) (bx := st'.bx) (tk := st'.tk) hlt ((hag.ev x (by simp [Op.operands, Call.operands])).trans hx) ((hag.ev y (by simp [Op.operands, Call.operands])).trans hy) (s_nil hL))) h

theorem d_addS {x y : Operand} {t t' : TypeId} {m n : List UInt8} (hlt : Nat.ble (d + 1) c.nt = true) (hx : St.ev ⟨fr, bx, tk⟩ x = aS m) (hy : St.ev ⟨fr, bx, tk⟩ y = aS n) (hl : m.length + n.length ≤ 9223372036854775807)
    (h : DR P c ops Q st0 (⟨some (d, aS (m ++ n)), [], [], [], [], [], []⟩ :: done) ⟨(d, aS (m ++ n)) :: fr, bx, tk⟩ rest) : DR P c ops Q st0 done ⟨fr, bx, tk⟩ (⟨some d, .binOp .add t x y t', ty, pos, aft, none⟩ :: rest) :=
  DR.cons (e := ⟨some (d, aS (m ++ n)), [], [], [], [], [], []⟩) (fun st' hag Q' hL => LW.out (s_addS (fr := st'.fr) (bx := st'.bx) (tk := st'.tk) hlt ((hag.ev x (by simp [Op.operands, Call.operands])).trans hx) ((hag.ev y (by simp [Op.operands, Call.operands])).trans hy) hl (s_nil hL))) h

theorem d_eqlB {x y : Operand} {t t' : TypeId} {m n : Bool} (hlt : Nat.ble (d + 1) c.nt = true) (hx : St.ev ⟨fr, bx, tk⟩ x = aB m) (hy : St.ev ⟨fr, bx, tk⟩ y = aB n) [ht : BoolTy P t]
    (h : DR P c ops Q st0 (⟨some (d, aB (m == n)), [], [], [], [], [], []⟩ :: done) ⟨(d, aB (m == n)) :: fr, bx, tk⟩ rest) : DR P c ops Q st0 done ⟨fr, bx, tk⟩ (⟨some d, .binOp .eql t x y t', ty, pos, aft, none⟩ :: rest) :=
  DR.cons (e := ⟨some (d, aB (m == n)), [], [], [], [], [], []⟩) (fun st' hag Q' hL => LW.out (s_eqlB (fr := st'.fr) (bx := st'.bx) (tk := st'.tk) hlt ((hag.ev x (by simp [Op.operands, Call.operands])).trans hx) ((hag.ev y (by simp [Op.operands, Call.operands])).trans hy) (s_nil hL))) h

theorem d_neqB {x y : Operand} {t t' : TypeId} {m n : Bool} (hlt : Nat.ble (d + 1) c.nt = true) (hx : St.ev ⟨fr, bx, tk⟩ x = aB m) (hy : St.ev ⟨fr, bx, tk⟩ y = aB n) [ht : BoolTy P t]
    (h : DR P c ops Q st0 (⟨some (d, aB (!(m == n))), [], [], [], [], [], []⟩ :: done) ⟨(d, aB (!(m == n))) :: fr, bx, tk⟩ rest) : DR P c ops Q st0 done ⟨fr, bx, tk⟩ (⟨some d, .binOp .neq t x y t', ty, pos, aft, none⟩ :: rest) :=
  DR.cons (e := ⟨some (d, aB (!(m == n))), [], [], [], [], [], []⟩) (fun st' hag Q' hL => LW.out (s_neqB (fr := st'.fr) (bx := st'.bx) (tk := st'.tk) hlt ((hag.ev x (by simp [Op.operands, Call.operands])).trans hx) ((hag.ev y (by simp [Op.operands, Call.operands])).trans hy) (s_nil hL))) h

theorem d_not {x : Operand} {t : TypeId} {b : Bool} (hlt : Nat.ble (d + 1) c.nt = true) (hx : St.ev ⟨fr, bx, tk⟩ x = aB b)
    (h : DR P c ops Q st0 (⟨some (d, aB (!b)), [], [], [], [], [], []⟩ :: done) ⟨(d, aB (!b)) :: fr, bx, tk⟩ rest) : DR P c ops Q st0 done ⟨fr, bx, tk⟩ (⟨some d, .unOp .not t x, ty, pos, aft, none⟩ :: rest) :=
  DR.cons (e := ⟨some (d, aB (!b)), [], [], [], [], [], []⟩) (fun st' hag Q' hL => LW.out (s_not (fr := st'.fr) (bx := st'.bx) (tk := st'.tk) hlt ((hag.ev x (by simp [Op.operands, Call.operands])).trans hx) (s_nil hL))) h

theorem d_negI {x : Operand} {t : TypeId} {m : Int} (hlt : Nat.ble (d + 1) c.nt = true) (hx : St.ev ⟨fr, bx, tk⟩ x = aI m) (hlo : -9223372036854775808 ≤ 0 - m) (hhi : 0 - m ≤ 9223372036854775807)
    (h : DR P c ops Q st0 (⟨some (d, aI (0 - m)), [], [], [], [], [], []⟩ :: done) ⟨(d, aI (0 - m)) :: fr, bx, tk⟩ rest) : DR P c ops Q st0 done ⟨fr, bx, tk⟩ (⟨some d, .unOp .neg t x, ty, pos, aft, none⟩ :: rest) :=
  DR.cons (e := ⟨some (d, aI (0 - m)), [], [], [], [], [], []⟩) (fun st' hag Q' hL => LW.out (s_negI (fr := st'.fr) (bx := st'.bx) (tk := st'.tk) hlt ((hag.ev x (by simp [Op.operands, Call.operands])).trans hx) hlo hhi (s_nil hL))) h

theorem d_conv {x : Operand} {s t : TypeId} {k k0 k' : IntKind} {m : Int} (hlt : Nat.ble (d + 1) c.nt = true) (hx : St.ev ⟨fr, bx, tk⟩ x = .iv (.im (.int k m))) [ht : IntTy P t k'] [hs : IntTy P s k0]
    (h : DR P c ops Q st0 (⟨some (d, .iv (.im (.int k' (k'.wrap m)))), [], [], [], [], [], []⟩ :: done) ⟨(d, .iv (.im (.int k' (k'.wrap m)))) :: fr, bx, tk⟩ rest) : DR P c ops Q st0 done ⟨fr, bx, tk⟩ (⟨some d, .convert s t x, ty, pos, aft, none⟩ :: rest) :=
  DR.cons (e := ⟨some (d, .iv (.im (.int k' (k'.wrap m)))), [], [], [], [], [], []⟩) (fun st' hag Q' hL => LW.out (s_conv (fr := st'.fr) (bx := st'.bx) (tk := st'.tk) hlt ((hag.ev x (by simp [Op.operands, Call.operands])).trans hx) (s_nil hL))) h

theorem d_arith {x y : Operand} {t t' : TypeId} {op : BinOp} {k : IntKind} {m n r : Int} (hlt : Nat.ble (d + 1) c.nt = true) (hx : St.ev ⟨fr, bx, tk⟩ x = .iv (.im (.int k m))) (hy : St.ev ⟨fr, bx, tk⟩ y = .iv (.im (.int k n))) (hr : ∀ w, (binOp op t (.int k m) (.int k n)).run P w = .ok (.int k r) w) (hq : ∀ w, (eqGuard op t x y (.int k m) (.int k n)).run P w = .ok () w)
    (h : DR P c ops Q st0 (⟨some (d, .iv (.im (.int k r))), [], [], [], [], [], []⟩ :: done) ⟨(d, .iv (.im (.int k r))) :: fr, bx, tk⟩ rest) : DR P c ops Q st0 done ⟨fr, bx, tk⟩ (⟨some d, .binOp op t x y t', ty, pos, aft, none⟩ :: rest) :=
  DR.cons (e := ⟨some (d, .iv (.im (.int k r))), [], [], [], [], [], []⟩) (fun st' hag Q' hL => LW.out (s_arith (fr := st'.fr) (bx := st'.bx) (tk := st'.tk) hlt ((hag.ev x (by simp [Op.operands, Call.operands])).trans hx) ((hag.ev y (by simp [Op.operands, Call.operands])).trans hy) hr hq (s_nil hL))) h

theorem d_lenS {x : Operand} {t : TypeId} {m : List UInt8} (hlt : Nat.ble (d + 1) c.nt = true) (hx : St.ev ⟨fr, bx, tk⟩ x = aS m) [ht : StrTy P t]
    (h : DR P c ops Q st0 (⟨some (d, aI m.length), [], [], [], [], [], []⟩ :: done) ⟨(d, aI m.length) :: fr, bx, tk⟩ rest) : DR P c ops Q st0 done ⟨fr, bx, tk⟩ (⟨some d, .call { callee := .builtin .len, args := #[x], argTypes := #[t] }, ty, pos, aft, none⟩ :: rest) :=
  DR.cons (e := ⟨some (d, aI m.length), [], [], [], [], [], []⟩) (fun st' hag Q' hL => LW.out (s_lenS (fr := st'.fr) (bx := st'.bx) (tk := st'.tk) hlt ((hag.ev x (by simp [Op.operands, Call.operands])).trans hx) (s_nil hL))) h

theorem d_lenSl {x : Operand} {t e : TypeId} {k : Nat} {es : List (List IV)} (hlt : Nat.ble (d + 1) c.nt = true) (hx : (St.ev ⟨fr, bx, tk⟩ x).sl? = some es) [hs : SliceTy P t e k]
    (h : DR P c ops Q st0 (⟨some (d, aI es.length), [], [], [], [], [], []⟩ :: done) ⟨(d, aI es.length) :: fr, bx, tk⟩ rest) : DR P c ops Q st0 done ⟨fr, bx, tk⟩ (⟨some d, .call { callee := .builtin .len, args := #[x], argTypes := #[t] }, ty, pos, aft, none⟩ :: rest) :=
  DR.cons (e := ⟨some (d, aI es.length), [], [], [], [], [], []⟩) (fun st' hag Q' hL => LW.out (s_lenSl (fr := st'.fr) (bx := st'.bx) (tk := st'.tk) hlt ((congrArg AV.sl? (hag.ev x (by simp [Op.operands, Call.operands]))).trans hx) (s_nil hL))) h

theorem d_indexS {x i : Operand} {t : TypeId} {m : List UInt8} {k : IntKind} {n : Int} {b : UInt8} (hlt : Nat.ble (d + 1) c.nt = true) (hx : St.ev ⟨fr, bx, tk⟩ x = aS m) (hn : St.ev ⟨fr, bx, tk⟩ i = .iv (.im (.int k n))) [ht : StrTy P t] (h0 : 0 ≤ n) (hb : m[n.toNat]? = some b)
    (h : DR P c ops Q st0 (⟨some (d, .iv (.im (.int .u8 b.toNat))), [], [], [], [], [], []⟩ :: done) ⟨(d, .iv (.im (.int .u8 b.toNat))) :: fr, bx, tk⟩ rest) : DR P c ops Q st0 done ⟨fr, bx, tk⟩ (⟨some d, .index t x i, ty, pos, aft, none⟩ :: rest) :=
  DR.cons (e := ⟨some (d, .iv (.im (.int .u8 b.toNat))), [], [], [], [], [], []⟩) (fun st' hag Q' hL => LW.out (s_indexS (fr := st'.fr) (bx := st'.bx) (tk := st'.tk) hlt ((hag.ev x (by simp [Op.operands, Call.operands])).trans hx) ((hag.ev i (by simp [Op.operands, Call.operands])).trans hn) h0 hb (s_nil hL))) h

theorem d_indexD {x i : Operand} {t : TypeId} {m : List UInt8} {k : IntKind} {n : Int} (hlt : Nat.ble (d + 1) c.nt = true) (hx : St.ev ⟨fr, bx, tk⟩ x = aS m) (hn : St.ev ⟨fr, bx, tk⟩ i = .iv (.im (.int k n))) [ht : StrTy P t] (h0 : 0 ≤ n) (h1 : n < m.length)
    (h : DR P c ops Q st0 (⟨some (d, .iv (.im (.int .u8 (m.getD n.toNat 0).toNat))), [], [], [], [], [], []⟩ :: done) ⟨(d, .iv (.im (.int .u8 (m.getD n.toNat 0).toNat))) :: fr, bx, tk⟩ rest) : DR P c ops Q st0 done ⟨fr, bx, tk⟩ (⟨some d, .index t x i, ty, pos, aft, none⟩ :: rest) :=
  DR.cons (e := ⟨some (d, .iv (.im (.int .u8 (m.getD n.toNat 0).toNat))), [], [], [], [], [], []⟩) (fun st' hag Q' hL => LW.out (s_indexD (fr := st'.fr) (bx := st'.bx) (tk := st'.tk) hlt ((hag.ev x (by simp [Op.operands, Call.operands])).trans hx) ((hag.ev i (by simp [Op.operands, Call.operands])).trans hn) h0 h1 (s_nil hL))) h

theorem d_fieldP {s : TypeId} {x : Operand} {f fo id off off' : Nat} (hlt : Nat.ble (d + 1) c.nt = true) (hx : St.ev ⟨fr, bx, tk⟩ x = .ptr id off) [hf : FieldTy P s f fo] (ho : off + fo = off')
    (h : DR P c ops Q st0 (⟨some (d, .ptr id off'), [], [], [], [], [], []⟩ :: done) ⟨(d, .ptr id off') :: fr, bx, tk⟩ rest) : DR P c ops Q st0 done ⟨fr, bx, tk⟩ (⟨some d, .fieldAddr s x f, ty, pos, aft, none⟩ :: rest) :=
  DR.cons (e := ⟨some (d, .ptr id off'), [], [], [], [], [], []⟩) (fun st' hag Q' hL => LW.out (s_fieldP (fr := st'.fr) (bx := st'.bx) (tk := st'.tk) hlt ((hag.ev x (by simp [Op.operands, Call.operands])).trans hx) ho (s_nil hL))) h

theorem d_fieldE {s : TypeId} {x : Operand} {f fo : Nat} {cs cs' : List IV} (hlt : Nat.ble (d + 1) c.nt = true) (hx : St.ev ⟨fr, bx, tk⟩ x = .el cs) [hf : FieldTy P s f fo] (hc : cs.drop fo = cs')
    (h : DR P c ops Q st0 (⟨some (d, .el cs'), [], [], [], [], [], []⟩ :: done) ⟨(d, .el cs') :: fr, bx, tk⟩ rest) : DR P c ops Q st0 done ⟨fr, bx, tk⟩ (⟨some d, .fieldAddr s x f, ty, pos, aft, none⟩ :: rest) :=
  DR.cons (e := ⟨some (d, .el cs'), [], [], [], [], [], []⟩) (fun st' hag Q' hL => LW.out (s_fieldE (fr := st'.fr) (bx := st'.bx) (tk := st'.tk) hlt ((hag.ev x (by simp [Op.operands, Call.operands])).trans hx) hc (s_nil hL))) h

theorem d_indexA {t e : TypeId} {x i : Operand} {k : Nat} {kd : IntKind} {n : Int} {es : List (List IV)} {cs : List IV} (hlt : Nat.ble (d + 1) c.nt = true) (hx : (St.ev ⟨fr, bx, tk⟩ x).sl? = some es) (hn : St.ev ⟨fr, bx, tk⟩ i = .iv (.im (.int kd n))) [hs : SliceTy P t e k] (h0 : 0 ≤ n) (hc : es[n.toNat]? = some cs) (hl : cs.length = k)
    (h : DR P c ops Q st0 (⟨some (d, .el cs), [], [], [], [], [], []⟩ :: done) ⟨(d, .el cs) :: fr, bx, tk⟩ rest) : DR P c ops Q st0 done ⟨fr, bx, tk⟩ (⟨some d, .indexAddr t x i, ty, pos, aft, none⟩ :: rest) :=
  DR.cons (e := ⟨some (d, .el cs), [], [], [], [], [], []⟩) (fun st' hag Q' hL => LW.out (s_indexA (fr := st'.fr) (bx := st'.bx) (tk := st'.tk) hlt ((congrArg AV.sl? (hag.ev x (by simp [Op.operands, Call.operands]))).trans hx) ((hag.ev i (by simp [Op.operands, Call.operands])).trans hn) h0 hc hl (s_nil hL))) h

theorem d_load1P {t : TypeId} {x : Operand} {id off : Nat} {b : Box} {v : AV} (hlt : Nat.ble (d + 1) c.nt = true) (hx : St.ev ⟨fr, bx, tk⟩ x = .ptr id off) [ht : VarTy P t false 1] (hb : bx.lookup id = some b) (hv : b.cs[off]? = some v)
    (h : DR P c ops Q st0 (⟨some (d, v), [], [], [], [id], [], []⟩ :: done) ⟨(d, v) :: fr, bx, tk⟩ rest) : DR P c ops Q st0 done ⟨fr, bx, tk⟩ (⟨some d, .load t x, ty, pos, aft, none⟩ :: rest) :=
  DR.cons (e := ⟨some (d, v), [], [], [], [id], [], []⟩) (fun st' hag Q' hL => LW.out (s_load1P (fr := st'.fr) (bx := st'.bx) (tk := st'.tk) hlt ((hag.ev x (by simp [Op.operands, Call.operands])).trans hx) ((hag.bx id (by simp)).trans hb) hv (s_nil hL))) h

theorem d_loadAP {t : TypeId} {x : Operand} {id off k : Nat} {b : Box} {cs : List AV} (hlt : Nat.ble (d + 1) c.nt = true) (hx : St.ev ⟨fr, bx, tk⟩ x = .ptr id off) [ht : VarTy P t true k] (hb : bx.lookup id = some b) (hc : (b.cs.drop off).take k = cs) (hk : cs.length = k)
    (h : DR P c ops Q st0 (⟨some (d, .agg cs), [], [], [], [id], [], []⟩ :: done) ⟨(d, .agg cs) :: fr, bx, tk⟩ rest) : DR P c ops Q st0 done ⟨fr, bx, tk⟩ (⟨some d, .load t x, ty, pos, aft, none⟩ :: rest) :=
  DR.cons (e := ⟨some (d, .agg cs), [], [], [], [id], [], []⟩) (fun st' hag Q' hL => LW.out (s_loadAP (fr := st'.fr) (bx := st'.bx) (tk := st'.tk) hlt ((hag.ev x (by simp [Op.operands, Call.operands])).trans hx) ((hag.bx id (by simp)).trans hb) hc hk (s_nil hL))) h

theorem d_load1E {t : TypeId} {x : Operand} {y : IV} {cs : List IV} (hlt : Nat.ble (d + 1) c.nt = true) (hx : St.ev ⟨fr, bx, tk⟩ x = .el cs) [ht : VarTy P t false 1] (hy : cs[0]? = some y)
    (h : DR P c ops Q st0 (⟨some (d, .iv y), [], [], [], [], [], []⟩ :: done) ⟨(d, .iv y) :: fr, bx, tk⟩ rest) : DR P c ops Q st0 done ⟨fr, bx, tk⟩ (⟨some d, .load t x, ty, pos, aft, none⟩ :: rest) :=
  DR.cons (e := ⟨some (d, .iv y), [], [], [], [], [], []⟩) (fun st' hag Q' hL => LW.out (s_load1E (fr := st'.fr) (bx := st'.bx) (tk := st'.tk) hlt ((hag.ev x (by simp [Op.operands, Call.operands])).trans hx) hy (s_nil hL))) h

theorem d_loadAE {t : TypeId} {x : Operand} {k : Nat} {cs : List IV} {vs : List AV} (hlt : Nat.ble (d + 1) c.nt = true) (hx : St.ev ⟨fr, bx, tk⟩ x = .el cs) [ht : VarTy P t true k] (hc : (cs.take k).map AV.iv = vs) (hk : vs.length = k)
    (h : DR P c ops Q st0 (⟨some (d, .agg vs), [], [], [], [], [], []⟩ :: done) ⟨(d, .agg vs) :: fr, bx, tk⟩ rest) : DR P c ops Q st0 done ⟨fr, bx, tk⟩ (⟨some d, .load t x, ty, pos, aft, none⟩ :: rest) :=
  DR.cons (e := ⟨some (d, .agg vs), [], [], [], [], [], []⟩) (fun st' hag Q' hL => LW.out (s_loadAE (fr := st'.fr) (bx := st'.bx) (tk := st'.tk) hlt ((hag.ev x (by simp [Op.operands, Call.operands])).trans hx) hc hk (s_nil hL))) h

theorem d_extract {x : Operand} {i : Nat} {vs : List AV} {v : AV} (hlt : Nat.ble (d + 1) c.nt = true) (hx : St.ev ⟨fr, bx, tk⟩ x = .tup vs) (hv : vs[i]? = some v)
    (h : DR P c ops Q st0 (⟨some (d, v), [], [], [], [], [], []⟩ :: done) ⟨(d, v) :: fr, bx, tk⟩ rest) : DR P c ops Q st0 done ⟨fr, bx, tk⟩ (⟨some d, .extract x i, ty, pos, aft, none⟩ :: rest) :=
  DR.cons (e := ⟨some (d, v), [], [], [], [], [], []⟩) (fun st' hag Q' hL => LW.out (s_extract (fr := st'.fr) (bx := st'.bx) (tk := st'.tk) hlt ((hag.ev x (by simp [Op.operands, Call.operands])).trans hx) hv (s_nil hL))) h

theorem d_nilP {x : Operand} {id off : Nat} (hlt : Nat.ble (d + 1) c.nt = true) (hx : St.ev ⟨fr, bx, tk⟩ x = .ptr id off)
    (h : DR P c ops Q st0 (⟨some (d, .ptr id off), [], [], [], [], [], []⟩ :: done) ⟨(d, .ptr id off) :: fr, bx, tk⟩ rest) : DR P c ops Q st0 done ⟨fr, bx, tk⟩ (⟨some d, .nilCheck x, ty, pos, aft, none⟩ :: rest) :=
  DR.cons (e := ⟨some (d, .ptr id off), [], [], [], [], [], []⟩) (fun st' hag Q' hL => LW.out (s_nilP (fr := st'.fr) (bx := st'.bx) (tk := st'.tk) hlt ((hag.ev x (by simp [Op.operands, Call.operands])).trans hx) (s_nil hL))) h

theorem d_nilE {x : Operand} {cs : List IV} (hlt : Nat.ble (d + 1) c.nt = true) (hx : St.ev ⟨fr, bx, tk⟩ x = .el cs)
    (h : DR P c ops Q st0 (⟨some (d, .el cs), [], [], [], [], [], []⟩ :: done) ⟨(d, .el cs) :: fr, bx, tk⟩ rest) : DR P c ops Q st0 done ⟨fr, bx, tk⟩ (⟨some d, .nilCheck x, ty, pos, aft, none⟩ :: rest) :=
  DR.cons (e := ⟨some (d, .el cs), [], [], [], [], [], []⟩) (fun st' hag Q' hL => LW.out (s_nilE (fr := st'.fr) (bx := st'.bx) (tk := st'.tk) hlt ((hag.ev x (by simp [Op.operands, Call.operands])).trans hx) (s_nil hL))) h

theorem d_build {t : TypeId} {parts : Array (Nat × Operand)} {zs : List Value} {pl : List (Nat × Nat)} {cs : List AV} (hlt : Nat.ble (d + 1) c.nt = true) [hz : ZeroTy P t zs] (h1 : zs.all (·.oneCell') = true) [hp : PlacesTy P t pl] (hf : fillA (pl[·]?) (zs.map constCell) (parts.toList.map fun x => (x.1, St.ev ⟨fr, bx, tk⟩ x.2)) = some cs)
    (h : DR P c ops Q st0 (⟨some (d, .agg cs), [], [], [], [], [], []⟩ :: done) ⟨(d, .agg cs) :: fr, bx, tk⟩ rest) : DR P c ops Q st0 done ⟨fr, bx, tk⟩ (⟨some d, .build t parts, ty, pos, aft, none⟩ :: rest) :=
  DR.cons (e := ⟨some (d, .agg cs), [], [], [], [], [], []⟩) (fun st' hag Q' hL => LW.out (s_build (fr := st'.fr) (bx := st'.bx) (tk := st'.tk) hlt h1 ((by rw [agP hag (fun x hx => by simp only [Op.operands]; exact List.mem_toArray.2 (List.mem_map.2 ⟨x, by simpa using hx, rfl⟩))]; exact hf)) (s_nil hL))) h

theorem d_eqlAgg {x y : Operand} {t t' : TypeId} {cs ds : List AV} {ks : List Nat} {b : Bool} (hlt : Nat.ble (d + 1) c.nt = true) (hx : St.ev ⟨fr, bx, tk⟩ x = .agg cs) (hy : St.ev ⟨fr, bx, tk⟩ y = .agg ds) [hok : EqTy P t ks] (hn : cs.map vKind = ks) (hb : eqVs cs ds = some b)
    (h : DR P c ops Q st0 (⟨some (d, aB (b)), [], [], [], [], [], []⟩ :: done) ⟨(d, aB (b)) :: fr, bx, tk⟩ rest) : DR P c ops Q st0 done ⟨fr, bx, tk⟩ (⟨some d, .binOp .eql t x y t', ty, pos, aft, none⟩ :: rest) :=
  DR.cons (e := ⟨some (d, aB (b)), [], [], [], [], [], []⟩) (fun st' hag Q' hL => LW.out (s_eqlAgg (fr := st'.fr) (bx := st'.bx) (tk := st'.tk) hlt ((hag.ev x (by simp [Op.operands, Call.operands])).trans hx) ((hag.ev y (by simp [Op.operands, Call.operands])).trans hy) hn hb (s_nil hL))) h

theorem d_neqAgg {x y : Operand} {t t' : TypeId} {cs ds : List AV} {ks : List Nat} {b : Bool} (hlt : Nat.ble (d + 1) c.nt = true) (hx : St.ev ⟨fr, bx, tk⟩ x = .agg cs) (hy : St.ev ⟨fr, bx, tk⟩ y = .agg ds) [hok : EqTy P t ks] (hn : cs.map vKind = ks) (hb : eqVs cs ds = some b)
    (h : DR P c ops Q st0 (⟨some (d, aB (!b)), [], [], [], [], [], []⟩ :: done) ⟨(d, aB (!b)) :: fr, bx, tk⟩ rest) : DR P c ops Q st0 done ⟨fr, bx, tk⟩ (⟨some d, .binOp .neq t x y t', ty, pos, aft, none⟩ :: rest) :=
  DR.cons (e := ⟨some (d, aB (!b)), [], [], [], [], [], []⟩) (fun st' hag Q' hL => LW.out (s_neqAgg (fr := st'.fr) (bx := st'.bx) (tk := st'.tk) hlt ((hag.ev x (by simp [Op.operands, Call.operands])).trans hx) ((hag.ev y (by simp [Op.operands, Call.operands])).trans hy) hn hb (s_nil hL))) h

theorem d_shrI {x y : Operand} {t t' : TypeId} {k k' : IntKind} {m n : Int} (hlt : Nat.ble (d + 1) c.nt = true) (hx : St.ev ⟨fr, bx, tk⟩ x = .iv (.im (.int k m))) (hy : St.ev ⟨fr, bx, tk⟩ y = .iv (.im (.int k' n))) (h0 : 0 ≤ n)
    (h : DR P c ops Q st0 (⟨some (d, .iv (.im (.int k (m.fdiv (2 ^ min n.toNat k.bits))))), [], [], [], [], [], []⟩ :: done) ⟨(d, .iv (.im (.int k (m.fdiv (2 ^ min n.toNat k.bits))))) :: fr, bx, tk⟩ rest) : DR P c ops Q st0 done ⟨fr, bx, tk⟩ (⟨some d, .binOp .shr t x y t', ty, pos, aft, none⟩ :: rest) :=
  DR.cons (e := ⟨some (d, .iv (.im (.int k (m.fdiv (2 ^ min n.toNat k.bits))))), [], [], [], [], [], []⟩) (fun st' hag Q' hL => LW.out (s_shrI (fr := st'.fr) (bx := st'.bx) (tk := st'.tk) hlt ((hag.ev x (by simp [Op.operands, Call.operands])).trans hx) ((hag.ev y (by simp [Op.operands, Call.operands])).trans hy) h0 (s_nil hL))) h

theorem d_shlI {x y : Operand} {t t' : TypeId} {k k' : IntKind} {m n : Int} (hlt : Nat.ble (d + 1) c.nt = true) (hx : St.ev ⟨fr, bx, tk⟩ x = .iv (.im (.int k m))) (hy : St.ev ⟨fr, bx, tk⟩ y = .iv (.im (.int k' n))) (h0 : 0 ≤ n)
    (h : DR P c ops Q st0 (⟨some (d, .iv (.im (.int k (k.wrap (m * 2 ^ min n.toNat k.bits))))), [], [], [], [], [], []⟩ :: done) ⟨(d, .iv (.im (.int k (k.wrap (m * 2 ^ min n.toNat k.bits))))) :: fr, bx, tk⟩ rest) : DR P c ops Q st0 done ⟨fr, bx, tk⟩ (⟨some d, .binOp .shl t x y t', ty, pos, aft, none⟩ :: rest) :=
  DR.cons (e := ⟨some (d, .iv (.im (.int k (k.wrap (m * 2 ^ min n.toNat k.bits))))), [], [], [], [], [], []⟩) (fun st' hag Q' hL => LW.out (s_shlI (fr := st'.fr) (bx := st'.bx) (tk := st'.tk) hlt ((hag.ev x (by simp [Op.operands, Call.operands])).trans hx) ((hag.ev y (by simp [Op.operands, Call.operands])).trans hy) h0 (s_nil hL))) h

theorem d_orI {x y : Operand} {t t' : TypeId} {k : IntKind} {m n : Int} (hlt : Nat.ble (d + 1) c.nt = true) (hx : St.ev ⟨fr, bx, tk⟩ x = .iv (.im (.int k m))) (hy : St.ev ⟨fr, bx, tk⟩ y = .iv (.im (.int k n)))
    (h : DR P c ops Q st0 (⟨some (d, .iv (.im (.int k (k.wrap ((BitVec.ofInt k.bits m ||| BitVec.ofInt k.bits n).toNat : Int))))), [], [], [], [], [], []⟩ :: done) ⟨(d, .iv (.im (.int k (k.wrap ((BitVec.ofInt k.bits m ||| BitVec.ofInt k.bits n).toNat : Int))))) :: fr, bx, tk⟩ rest) : DR P c ops Q st0 done ⟨fr, bx, tk⟩ (⟨some d, .binOp .or t x y t', ty, pos, aft, none⟩ :: rest) :=
  DR.cons (e := ⟨some (d, .iv (.im (.int k (k.wrap ((BitVec.ofInt k.bits m ||| BitVec.ofInt k.bits n).toNat : Int))))), [], [], [], [], [], []⟩) (fun st' hag Q' hL => LW.out (s_orI (fr := st'.fr) (bx := st'.bx) (tk := st'.tk) hlt ((hag.ev x (by simp [Op.operands, Call.operands])).trans hx) ((hag.ev y (by simp [Op.operands, Call.operands])).trans hy) (s_nil hL))) h

theorem d_orA {x y : Operand} {t t' : TypeId} {m n a p : Int} (i : Nat) (hlt : Nat.ble (d + 1) c.nt = true) (hx : St.ev ⟨fr, bx, tk⟩ x = aI m) (hy : St.ev ⟨fr, bx, tk⟩ y = aI n) (hp : (2 : Int) ^ i = p) (hm : m = a * p) (ha : 0 ≤ a) (h1 : a * p + p ≤ 9223372036854775807) (hn : 0 ≤ n) (h2 : n < p)
    (h : DR P c ops Q st0 (⟨some (d, aI (m + n)), [], [], [], [], [], []⟩ :: done) ⟨(d, aI (m + n)) :: fr, bx, tk⟩ rest) : DR P c ops Q st0 done ⟨fr, bx, tk⟩ (⟨some d, .binOp .or t x y t', ty, pos, aft, none⟩ :: rest) :=
  DR.cons (e := ⟨some (d, aI (m + n)), [], [], [], [], [], []⟩) (fun st' hag Q' hL => LW.out (s_orA (fr := st'.fr) (bx := st'.bx) (tk := st'.tk) i hlt ((hag.ev x (by simp [Op.operands, Call.operands])).trans hx) ((hag.ev y (by simp [Op.operands, Call.operands])).trans hy) hp hm ha h1 hn h2 (s_nil hL))) h

theorem d_shlA {x y : Operand} {t t' : TypeId} {k' : IntKind} {m n p : Int} (hlt : Nat.ble (d + 1) c.nt = true) (hx : St.ev ⟨fr, bx, tk⟩ x = aI m) (hy : St.ev ⟨fr, bx, tk⟩ y = .iv (.im (.int k' n))) (h0 : 0 ≤ n) (hp : (2 : Int) ^ min n.toNat 64 = p) (hlo : -9223372036854775808 ≤ m * p) (hhi : m * p ≤ 9223372036854775807)
    (h : DR P c ops Q st0 (⟨some (d, aI (m * p)), [], [], [], [], [], []⟩ :: done) ⟨(d, aI (m * p)) :: fr, bx, tk⟩ rest) : DR P c ops Q st0 done ⟨fr, bx, tk⟩ (⟨some d, .binOp .shl t x y t', ty, pos, aft, none⟩ :: rest) :=
  DR.cons (e := ⟨some (d, aI (m * p)), [], [], [], [], [], []⟩) (fun st' hag Q' hL => LW.out (s_shlA (fr := st'.fr) (bx := st'.bx) (tk := st'.tk) hlt ((hag.ev x (by simp [Op.operands, Call.operands])).trans hx) ((hag.ev y (by simp [Op.operands, Call.operands])).trans hy) h0 hp hlo hhi (s_nil hL))) h

theorem d_convU8 {x : Operand} {s t : TypeId} {k0 : IntKind} {b : UInt8} (hlt : Nat.ble (d + 1) c.nt = true) (hx : St.ev ⟨fr, bx, tk⟩ x = .iv (.im (.int .u8 (b.toNat : Int)))) [ht : IntTy P t .i64] [hs : IntTy P s k0]
    (h : DR P c ops Q st0 (⟨some (d, aI (b.toNat : Int)), [], [], [], [], [], []⟩ :: done) ⟨(d, aI (b.toNat : Int)) :: fr, bx, tk⟩ rest) : DR P c ops Q st0 done ⟨fr, bx, tk⟩ (⟨some d, .convert s t x, ty, pos, aft, none⟩ :: rest) :=
  DR.cons (e := ⟨some (d, aI (b.toNat : Int)), [], [], [], [], [], []⟩) (fun st' hag Q' hL => LW.out (s_convU8 (fr := st'.fr) (bx := st'.bx) (tk := st'.tk) hlt ((hag.ev x (by simp [Op.operands, Call.operands])).trans hx) (s_nil hL))) h

theorem d_quoI {x y : Operand} {t t' : TypeId} {m n : Int} (hlt : Nat.ble (d + 1) c.nt = true) (hx : St.ev ⟨fr, bx, tk⟩ x = aI m) (hy : St.ev ⟨fr, bx, tk⟩ y = aI n) (hn : 0 < n) (hlo : -9223372036854775808 ≤ m) (hhi : m ≤ 9223372036854775807)
    (h : DR P c ops Q st0 (⟨some (d, aI (m.tdiv n)), [], [], [], [], [], []⟩ :: done) ⟨(d, aI (m.tdiv n)) :: fr, bx, tk⟩ rest) : DR P c ops Q st0 done ⟨fr, bx, tk⟩ (⟨some d, .binOp .quo t x y t', ty, pos, aft, none⟩ :: rest) :=
  DR.cons (e := ⟨some (d, aI (m.tdiv n)), [], [], [], [], [], []⟩) (fun st' hag Q' hL => LW.out (s_quoI (fr := st'.fr) (bx := st'.bx) (tk := st'.tk) hlt ((hag.ev x (by simp [Op.operands, Call.operands])).trans hx) ((hag.ev y (by simp [Op.operands, Call.operands])).trans hy) hn hlo hhi (s_nil hL))) h

theorem d_remI {x y : Operand} {t t' : TypeId} {k : IntKind} {m n : Int} (hlt : Nat.ble (d + 1) c.nt = true) (hx : St.ev ⟨fr, bx, tk⟩ x = .iv (.im (.int k m))) (hy : St.ev ⟨fr, bx, tk⟩ y = .iv (.im (.int k n))) (hn : 0 < n)
    (h : DR P c ops Q st0 (⟨some (d, .iv (.im (.int k (m.tmod n)))), [], [], [], [], [], []⟩ :: done) ⟨(d, .iv (.im (.int k (m.tmod n)))) :: fr, bx, tk⟩ rest) : DR P c ops Q st0 done ⟨fr, bx, tk⟩ (⟨some d, .binOp .rem t x y t', ty, pos, aft, none⟩ :: rest) :=
  DR.cons (e := ⟨some (d, .iv (.im (.int k (m.tmod n)))), [], [], [], [], [], []⟩) (fun st' hag Q' hL => LW.out (s_remI (fr := st'.fr) (bx := st'.bx) (tk := st'.tk) hlt ((hag.ev x (by simp [Op.operands, Call.operands])).trans hx) ((hag.ev y (by simp [Op.operands, Call.operands])).trans hy) hn (s_nil hL))) h

theorem d_sliceSl {x y : Operand} {t : TypeId} {m m' : List UInt8} {k : IntKind} {n : Int} (hlt : Nat.ble (d + 1) c.nt = true) (hx : St.ev ⟨fr, bx, tk⟩ x = aS m) (hy : St.ev ⟨fr, bx, tk⟩ y = .iv (.im (.int k n))) [ht : StrTy P t] (h0 : 0 ≤ n) (h1 : n ≤ m.length) (hm : m.drop n.toNat = m')
    (h : DR P c ops Q st0 (⟨some (d, aS m'), [], [], [], [], [], []⟩ :: done) ⟨(d, aS m') :: fr, bx, tk⟩ rest) : DR P c ops Q st0 done ⟨fr, bx, tk⟩ (⟨some d, .slice t x (some y) none none, ty, pos, aft, none⟩ :: rest) :=
  DR.cons (e := ⟨some (d, aS m'), [], [], [], [], [], []⟩) (fun st' hag Q' hL => LW.out (s_sliceSl (fr := st'.fr) (bx := st'.bx) (tk := st'.tk) hlt ((hag.ev x (by simp [Op.operands, Call.operands])).trans hx) ((hag.ev y (by simp [Op.operands, Call.operands])).trans hy) h0 h1 hm (s_nil hL))) h

theorem d_sliceSh {x y : Operand} {t : TypeId} {m m' : List UInt8} {k : IntKind} {n : Int} (hlt : Nat.ble (d + 1) c.nt = true) (hx : St.ev ⟨fr, bx, tk⟩ x = aS m) (hy : St.ev ⟨fr, bx, tk⟩ y = .iv (.im (.int k n))) [ht : StrTy P t] (h0 : 0 ≤ n) (h1 : n ≤ m.length) (hm : m.take n.toNat = m')
    (h : DR P c ops Q st0 (⟨some (d, aS m'), [], [], [], [], [], []⟩ :: done) ⟨(d, aS m') :: fr, bx, tk⟩ rest) : DR P c ops Q st0 done ⟨fr, bx, tk⟩ (⟨some d, .slice t x none (some y) none, ty, pos, aft, none⟩ :: rest) :=
  DR.cons (e := ⟨some (d, aS m'), [], [], [], [], [], []⟩) (fun st' hag Q' hL => LW.out (s_sliceSh (fr := st'.fr) (bx := st'.bx) (tk := st'.tk) hlt ((hag.ev x (by simp [Op.operands, Call.operands])).trans hx) ((hag.ev y (by simp [Op.operands, Call.operands])).trans hy) h0 h1 hm (s_nil hL))) h

theorem d_sliceSlh {x y z : Operand} {t : TypeId} {m m' : List UInt8} {k k' : IntKind} {n j : Int} (hlt : Nat.ble (d + 1) c.nt = true) (hx : St.ev ⟨fr, bx, tk⟩ x = aS m) (hy : St.ev ⟨fr, bx, tk⟩ y = .iv (.im (.int k n))) (hz : St.ev ⟨fr, bx, tk⟩ z = .iv (.im (.int k' j))) [ht : StrTy P t] (h0 : 0 ≤ n) (h1 : n ≤ j) (h2 : j ≤ m.length) (hm : (m.drop n.toNat).take (j.toNat - n.toNat) = m')
    (h : DR P c ops Q st0 (⟨some (d, aS m'), [], [], [], [], [], []⟩ :: done) ⟨(d, aS m') :: fr, bx, tk⟩ rest) : DR P c ops Q st0 done ⟨fr, bx, tk⟩ (⟨some d, .slice t x (some y) (some z) none, ty, pos, aft, none⟩ :: rest) :=
  DR.cons (e := ⟨some (d, aS m'), [], [], [], [], [], []⟩) (fun st' hag Q' hL => LW.out (s_sliceSlh (fr := st'.fr) (bx := st'.bx) (tk := st'.tk) hlt ((hag.ev x (by simp [Op.operands, Call.operands])).trans hx) ((hag.ev y (by simp [Op.operands, Call.operands])).trans hy) ((hag.ev z (by simp [Op.operands, Call.operands])).trans hz) h0 h1 h2 hm (s_nil hL))) h

theorem d_sliceVl {x y : Operand} {t e : TypeId} {k : Nat} {es es' : List (List IV)} {kd : IntKind} {n : Int} (hlt : Nat.ble (d + 1) c.nt = true) (hx : (St.ev ⟨fr, bx, tk⟩ x).sl? = some es) (hy : St.ev ⟨fr, bx, tk⟩ y = .iv (.im (.int kd n))) [hs : SliceTy P t e k] (hk : ∀ e ∈ es, e.length = k) (h0 : 0 ≤ n) (h1 : n ≤ es.length) (hm : es.drop n.toNat = es')
    (h : DR P c ops Q st0 (⟨some (d, .iv (.sl es')), [], [], [], [], [], []⟩ :: done) ⟨(d, .iv (.sl es')) :: fr, bx, tk⟩ rest) : DR P c ops Q st0 done ⟨fr, bx, tk⟩ (⟨some d, .slice t x (some y) none none, ty, pos, aft, none⟩ :: rest) :=
  DR.cons (e := ⟨some (d, .iv (.sl es')), [], [], [], [], [], []⟩) (fun st' hag Q' hL => LW.out (s_sliceVl (fr := st'.fr) (bx := st'.bx) (tk := st'.tk) hlt ((congrArg AV.sl? (hag.ev x (by simp [Op.operands, Call.operands]))).trans hx) ((hag.ev y (by simp [Op.operands, Call.operands])).trans hy) hk h0 h1 hm (s_nil hL))) h

theorem d_sliceVh {x y : Operand} {t e : TypeId} {k : Nat} {es es' : List (List IV)} {kd : IntKind} {n : Int} (hlt : Nat.ble (d + 1) c.nt = true) (hx : (St.ev ⟨fr, bx, tk⟩ x).sl? = some es) (hy : St.ev ⟨fr, bx, tk⟩ y = .iv (.im (.int kd n))) [hs : SliceTy P t e k] (hk : ∀ e ∈ es, e.length = k) (h0 : 0 ≤ n) (h1 : n ≤ es.length) (hm : es.take n.toNat = es')
    (h : DR P c ops Q st0 (⟨some (d, .iv (.sl es')), [], [], [], [], [], []⟩ :: done) ⟨(d, .iv (.sl es')) :: fr, bx, tk⟩ rest) : DR P c ops Q st0 done ⟨fr, bx, tk⟩ (⟨some d, .slice t x none (some y) none, ty, pos, aft, none⟩ :: rest) :=
  DR.cons (e := ⟨some (d, .iv (.sl es')), [], [], [], [], [], []⟩) (fun st' hag Q' hL => LW.out (s_sliceVh (fr := st'.fr) (bx := st'.bx) (tk := st'.tk) hlt ((congrArg AV.sl? (hag.ev x (by simp [Op.operands, Call.operands]))).trans hx) ((hag.ev y (by simp [Op.operands, Call.operands])).trans hy) hk h0 h1 hm (s_nil hL))) h

theorem d_sliceVlh {x y z : Operand} {t e : TypeId} {k : Nat} {es es' : List (List IV)} {kd kd' : IntKind} {n j : Int} (hlt : Nat.ble (d + 1) c.nt = true) (hx : (St.ev ⟨fr, bx, tk⟩ x).sl? = some es) (hy : St.ev ⟨fr, bx, tk⟩ y = .iv (.im (.int kd n))) (hz : St.ev ⟨fr, bx, tk⟩ z = .iv (.im (.int kd' j))) [hs : SliceTy P t e k] (hk : ∀ e ∈ es, e.length = k) (h0 : 0 ≤ n) (h1 : n ≤ j) (h2 : j ≤ es.length) (hm : (es.take j.toNat).drop n.toNat = es')
    (h : DR P c ops Q st0 (⟨some (d, .iv (.sl es')), [], [], [], [], [], []⟩ :: done) ⟨(d, .iv (.sl es')) :: fr, bx, tk⟩ rest) : DR P c ops Q st0 done ⟨fr, bx, tk⟩ (⟨some d, .slice t x (some y) (some z) none, ty, pos, aft, none⟩ :: rest) :=
  DR.cons (e := ⟨some (d, .iv (.sl es')), [], [], [], [], [], []⟩) (fun st' hag Q' hL => LW.out (s_sliceVlh (fr := st'.fr) (bx := st'.bx) (tk := st'.tk) hlt ((congrArg AV.sl? (hag.ev x (by simp [Op.operands, Call.operands]))).trans hx) ((hag.ev y (by simp [Op.operands, Call.operands])).trans hy) ((hag.ev z (by simp [Op.operands, Call.operands])).trans hz) hk h0 h1 h2 hm (s_nil hL))) h

theorem d_bytesS {x : Operand} {s t e : TypeId} {bs : List UInt8} (hlt : Nat.ble (d + 1) c.nt = true) (hx : (St.ev ⟨fr, bx, tk⟩ x).sl? = some (bs.map cB)) [hs : SliceTy P s e 1] [he : IntTy P e .u8] [ht : StrTy P t]
    (h : DR P c ops Q st0 (⟨some (d, aS bs), [], [], [], [], [], []⟩ :: done) ⟨(d, aS bs) :: fr, bx, tk⟩ rest) : DR P c ops Q st0 done ⟨fr, bx, tk⟩ (⟨some d, .convert s t x, ty, pos, aft, none⟩ :: rest) :=
  DR.cons (e := ⟨some (d, aS bs), [], [], [], [], [], []⟩) (fun st' hag Q' hL => LW.out (s_bytesS (fr := st'.fr) (bx := st'.bx) (tk := st'.tk) hlt ((congrArg AV.sl? (hag.ev x (by simp [Op.operands, Call.operands]))).trans hx) (s_nil hL))) h

theorem d_box {t : TypeId} {x : Operand} {v : AV} {cs : List AV} (hlt : Nat.ble (d + 1) c.nt = true) (hx : St.ev ⟨fr, bx, tk⟩ x = v) (hv : v.lays = true) (hc : v.cells = cs) (hf : St.fresh d ⟨fr, bx, tk⟩ = true) (hm : AV.ments d cs = false)
    (h : DR P c ops Q st0 (⟨some (d, .ptr d 0), ((d, ⟨t, cs⟩) :: []), [], [], [], [], [d]⟩ :: done) ⟨(d, .ptr d 0) :: fr, (d, ⟨t, cs⟩) :: bx, tk⟩ rest) : DR P c ops Q st0 done ⟨fr, bx, tk⟩ (⟨some d, .box t x, ty, pos, aft, none⟩ :: rest) :=
  DR.cons (e := ⟨some (d, .ptr d 0), ((d, ⟨t, cs⟩) :: []), [], [], [], [], [d]⟩) (fun st' hag Q' hL => LW.out (s_box (fr := st'.fr) (bx := st'.bx) (tk := st'.tk) hlt ((hag.ev x (by simp [Op.operands, Call.operands])).trans hx) hv hc (hag.fs d (by simp)) hm (s_nil hL))) h

theorem d_strBytes {s t e : TypeId} {x : Operand} {bs : List UInt8} (hlt : Nat.ble (d + 1) c.nt = true) (hx : St.ev ⟨fr, bx, tk⟩ x = aS bs) [hs : StrTy P s] [ht : SliceTy P t e 1] [he : IntTy P e .u8] (hf : St.fresh d ⟨fr, bx, tk⟩ = true) (hl : bs.length ≤ 9223372036854775807)
    (h : DR P c ops Q st0 (⟨some (d, .iv (.sl (bs.map cB))), [], [], [], [], [], [d]⟩ :: done) ⟨(d, .iv (.sl (bs.map cB))) :: fr, bx, tk⟩ rest) : DR P c ops Q st0 done ⟨fr, bx, tk⟩ (⟨some d, .convert s t x, ty, pos, aft, none⟩ :: rest) :=
  DR.cons (e := ⟨some (d, .iv (.sl (bs.map cB))), [], [], [], [], [], [d]⟩) (fun st' hag Q' hL => LW.out (s_strBytes (fr := st'.fr) (bx := st'.bx) (tk := st'.tk) hlt ((hag.ev x (by simp [Op.operands, Call.operands])).trans hx) (hag.fs d (by simp)) hl (s_nil hL))) h

theorem d_idxB {f : FuncId} {x y : Operand} {ats : Array TypeId} {m : List UInt8} {n : Int} (hlt : Nat.ble (d + 1) c.nt = true) [hok : IdxTy P f] (hx : St.ev ⟨fr, bx, tk⟩ x = aS m) (hy : St.ev ⟨fr, bx, tk⟩ y = .iv (.im (.int .u8 n)))
    (h : DR P c ops Q st0 (⟨some (d, aI (Lib.indexByte m n.toNat.toUInt8)), [], [], [], [], [], []⟩ :: done) ⟨(d, aI (Lib.indexByte m n.toNat.toUInt8)) :: fr, bx, tk⟩ rest) : DR P c ops Q st0 done ⟨fr, bx, tk⟩ (⟨some d, .call { callee := .value (.func f), args := #[x, y], argTypes := ats }, ty, pos, aft, none⟩ :: rest) :=
  DR.cons (e := ⟨some (d, aI (Lib.indexByte m n.toNat.toUInt8)), [], [], [], [], [], []⟩) (fun st' hag Q' hL => LW.out (s_idxB (fr := st'.fr) (bx := st'.bx) (tk := st'.tk) hlt ((hag.ev x (by simp [Op.operands, Call.operands])).trans hx) ((hag.ev y (by simp [Op.operands, Call.operands])).trans hy) (s_nil hL))) h

theorem d_and1 {x y : Operand} {t t' : TypeId} {m : Int} (hlt : Nat.ble (d + 1) c.nt = true) (hx : St.ev ⟨fr, bx, tk⟩ x = aI m) (hy : St.ev ⟨fr, bx, tk⟩ y = aI 1)
    (h : DR P c ops Q st0 (⟨some (d, aI (m % 2)), [], [], [], [], [], []⟩ :: done) ⟨(d, aI (m % 2)) :: fr, bx, tk⟩ rest) : DR P c ops Q st0 done ⟨fr, bx, tk⟩ (⟨some d, .binOp .and t x y t', ty, pos, aft, none⟩ :: rest) :=
  DR.cons (e := ⟨some (d, aI (m % 2)), [], [], [], [], [], []⟩) (fun st' hag Q' hL => LW.out (s_and1 (fr := st'.fr) (bx := st'.bx) (tk := st'.tk) hlt ((hag.ev x (by simp [Op.operands, Call.operands])).trans hx) ((hag.ev y (by simp [Op.operands, Call.operands])).trans hy) (s_nil hL))) h

theorem d_min2 {x y : Operand} {t t' : TypeId} {m n : Int} (hlt : Nat.ble (d + 1) c.nt = true) (hx : St.ev ⟨fr, bx, tk⟩ x = aI m) (hy : St.ev ⟨fr, bx, tk⟩ y = aI n)
    (h : DR P c ops Q st0 (⟨some (d, aI (if n < m then n else m)), [], [], [], [], [], []⟩ :: done) ⟨(d, aI (if n < m then n else m)) :: fr, bx, tk⟩ rest) : DR P c ops Q st0 done ⟨fr, bx, tk⟩ (⟨some d, .call { callee := .builtin .min, args := #[x, y], argTypes := #[t, t'] }, ty, pos, aft, none⟩ :: rest) :=
  DR.cons (e := ⟨some (d, aI (if n < m then n else m)), [], [], [], [], [], []⟩) (fun st' hag Q' hL => LW.out (s_min2 (fr := st'.fr) (bx := st'.bx) (tk := st'.tk) hlt ((hag.ev x (by simp [Op.operands, Call.operands])).trans hx) ((hag.ev y (by simp [Op.operands, Call.operands])).trans hy) (s_nil hL))) h

theorem d_indexG {g : Nat} {t e : TypeId} {ln : Nat} {i : Operand} {kd : IntKind} {n : Int} {v : Value} {vs : List Value} (hlt : Nat.ble (d + 1) c.nt = true) [hs : ArrTy P t e ln] (hG : Glob g vs c.E0 c.w0) (hln : ln = vs.length) (hn : St.ev ⟨fr, bx, tk⟩ i = .iv (.im (.int kd n))) (h0 : 0 ≤ n) (hv : vs[n.toNat]? = some v)
    (h : DR P c ops Q st0 (⟨some (d, .el [.im v]), [], [], [], [], [], []⟩ :: done) ⟨(d, .el [.im v]) :: fr, bx, tk⟩ rest) : DR P c ops Q st0 done ⟨fr, bx, tk⟩ (⟨some d, .indexAddr t (.global g) i, ty, pos, aft, none⟩ :: rest) :=
  DR.cons (e := ⟨some (d, .el [.im v]), [], [], [], [], [], []⟩) (fun st' hag Q' hL => LW.out (s_indexG (fr := st'.fr) (bx := st'.bx) (tk := st'.tk) hlt hG hln ((hag.ev i (by simp [Op.operands, Call.operands])).trans hn) h0 hv (s_nil hL))) h

theorem d_callG {g : Nat} {vs : List Value} {f : FuncId} {args : Array Operand} {ats : Array TypeId} {as : List AV} {res : AV} (hlt : Nat.ble (d + 1) c.nt = true) [hok : CallTy P f] (hG : Glob g vs c.E0 c.w0) (hc : CallG g vs P f as [] [] [] res) (ha : AV.pub.pubs (args.toList.map (St.ev ⟨fr, bx, tk⟩)) = as) (hmr : AV.mentIn [] res = true)
    (h : DR P c ops Q st0 (⟨some (d, res), [], [], [], [], [], []⟩ :: done) ⟨(d, res) :: fr, bx, tk⟩ rest) : DR P c ops Q st0 done ⟨fr, bx, tk⟩ (⟨some d, .call { callee := .value (.func f), args := args, argTypes := ats }, ty, pos, aft, none⟩ :: rest) :=
  DR.cons (e := ⟨some (d, res), [], [], [], [], [], []⟩) (fun st' hag Q' hL => LW.out (s_callG (fr := st'.fr) (bx := st'.bx) (tk := st'.tk) hlt hG hc ((by rw [agL hag (fun x hx => by simp [Op.operands, Call.operands, hx])]; exact ha)) hmr (s_nil hL))) h

theorem d_fieldV {s : TypeId} {x : Operand} {f fo : Nat} {cs : List AV} {v : AV} (hlt : Nat.ble (d + 1) c.nt = true) (hx : St.ev ⟨fr, bx, tk⟩ x = .agg cs) [hf : FldTy P s f fo] (hv : cs[fo]? = some v)
    (h : DR P c ops Q st0 (⟨some (d, v), [], [], [], [], [], []⟩ :: done) ⟨(d, v) :: fr, bx, tk⟩ rest) : DR P c ops Q st0 done ⟨fr, bx, tk⟩ (⟨some d, .field s x f, ty, pos, aft, none⟩ :: rest) :=
  DR.cons (e := ⟨some (d, v), [], [], [], [], [], []⟩) (fun st' hag Q' hL => LW.out (s_fieldV (fr := st'.fr) (bx := st'.bx) (tk := st'.tk) hlt ((hag.ev x (by simp [Op.operands, Call.operands])).trans hx) hv (s_nil hL))) h

theorem d_max2 {x y : Operand} {t t' : TypeId} {m n : Int} (hlt : Nat.ble (d + 1) c.nt = true) (hx : St.ev ⟨fr, bx, tk⟩ x = aI m) (hy : St.ev ⟨fr, bx, tk⟩ y = aI n)
    (h : DR P c ops Q st0 (⟨some (d, aI (if n > m then n else m)), [], [], [], [], [], []⟩ :: done) ⟨(d, aI (if n > m then n else m)) :: fr, bx, tk⟩ rest) : DR P c ops Q st0 done ⟨fr, bx, tk⟩ (⟨some d, .call { callee := .builtin .max, args := #[x, y], argTypes := #[t, t'] }, ty, pos, aft, none⟩ :: rest) :=
  DR.cons (e := ⟨some (d, aI (if n > m then n else m)), [], [], [], [], [], []⟩) (fun st' hag Q' hL => LW.out (s_max2 (fr := st'.fr) (bx := st'.bx) (tk := st'.tk) hlt ((hag.ev x (by simp [Op.operands, Call.operands])).trans hx) ((hag.ev y (by simp [Op.operands, Call.operands])).trans hy) (s_nil hL))) h

theorem d_alloc {t : TypeId} {zs : List Value} {cs : List AV} (hlt : Nat.ble (d + 1) c.nt = true) [hz : ZeroTy P t zs] (h1 : zs.all (·.oneCell') = true) (hc : zs.map constCell = cs) (hf : St.fresh d ⟨fr, bx, tk⟩ = true) (hm : AV.ments d cs = false)
    (h : DR P c ops Q st0 (⟨some (d, .ptr d 0), ((d, ⟨t, cs⟩) :: []), [], [], [], [], [d]⟩ :: done) ⟨(d, .ptr d 0) :: fr, (d, ⟨t, cs⟩) :: bx, tk⟩ rest) : DR P c ops Q st0 done ⟨fr, bx, tk⟩ (⟨some d, .alloc t, ty, pos, aft, none⟩ :: rest) :=
  DR.cons (e := ⟨some (d, .ptr d 0), ((d, ⟨t, cs⟩) :: []), [], [], [], [], [d]⟩) (fun st' hag Q' hL => LW.out (s_alloc (fr := st'.fr) (bx := st'.bx) (tk := st'.tk) hlt h1 hc (hag.fs d (by simp)) hm (s_nil hL))) h

theorem d_bslice {t e : TypeId} {n k : Nat} {parts : Array (Nat × Operand)} {zs : List Value} {cs : List AV} {xs : List IV} {es : List (List IV)} (hlt : Nat.ble (d + 1) c.nt = true) [hs : SliceTy P t e k] [hz : ZeroTy P e zs] (h1 : zs.all (·.oneCell') = true) (hzl : zs.length = k) (hn : Nat.ble (n * k) 16777216 = true) (hnk : Nat.ble 1 k = true) (hf : fillA (fun i => some (i * k, k)) ((List.range (n * k)).map fun i => constCell (zs.getD (i % k) undef)) (parts.toList.map fun x => (x.1, St.ev ⟨fr, bx, tk⟩ x.2)) = some cs) (hx : toIs cs = some xs) (hcl : cs.length = n * k) (he : chunks k n xs = es) (hfr : St.fresh d ⟨fr, bx, tk⟩ = true)
    (h : DR P c ops Q st0 (⟨some (d, .row d es), [], [(d, ⟨e, k⟩)], [], [], [], [d]⟩ :: done) ⟨(d, .row d es) :: fr, bx, (d, ⟨e, k⟩) :: tk⟩ rest) : DR P c ops Q st0 done ⟨fr, bx, tk⟩ (⟨some d, .buildSlice t n parts, ty, pos, aft, none⟩ :: rest) :=
  DR.cons (e := ⟨some (d, .row d es), [], [(d, ⟨e, k⟩)], [], [], [], [d]⟩) (fun st' hag Q' hL => LW.out (s_bslice (fr := st'.fr) (bx := st'.bx) (tk := st'.tk) hlt h1 hzl hn hnk ((by rw [agP hag (fun x hx => by simp only [Op.operands]; exact List.mem_toArray.2 (List.mem_map.2 ⟨x, by simpa using hx, rfl⟩))]; exact hf)) hx hcl he (hag.fs d (by simp)) (s_nil hL))) h

theorem d_store {t : TypeId} {x y : Operand} {id off k : Nat} {b : Box} {v : AV} {agg : Bool} {cs : List AV} (hx : St.ev ⟨fr, bx, tk⟩ x = .ptr id off) (hy : St.ev ⟨fr, bx, tk⟩ y = v) [ht : VarTy P t agg k] (hb : bx.lookup id = some b) (hv : v.lays = true) (hk : v.cells.length = k) (hle : Nat.ble (off + k) b.cs.length = true) (hc : setA b.cs off v.cells = cs)
    (h : DR P c ops Q st0 (⟨none, ((id, ⟨b.ty, cs⟩) :: []), [], [], [id], [], []⟩ :: done) ⟨fr, (id, ⟨b.ty, cs⟩) :: bx, tk⟩ rest) : DR P c ops Q st0 done ⟨fr, bx, tk⟩ (⟨none, .store t x y, ty, pos, aft, none⟩ :: rest) :=
  DR.cons (e := ⟨none, ((id, ⟨b.ty, cs⟩) :: []), [], [], [id], [], []⟩) (fun st' hag Q' hL => LW.out (s_store (fr := st'.fr) (bx := st'.bx) (tk := st'.tk) ((hag.ev x (by simp [Op.operands, Call.operands])).trans hx) ((hag.ev y (by simp [Op.operands, Call.operands])).trans hy) ((hag.bx id (by simp)).trans hb) hv hk hle hc (s_nil hL))) h

theorem d_append {t t' e : TypeId} {x y : Operand} {id k bytes : Nat} {es news es' : List (List IV)} (hlt : Nat.ble (d + 1) c.nt = true) (hx : St.ev ⟨fr, bx, tk⟩ x = .row id es) (htk : tk.lookup id = some ⟨e, k⟩) (hy : (St.ev ⟨fr, bx, tk⟩ y).sl? = some news) [ha : AppTy P t e k bytes] [hs : SliceTy P t' e k] (hes : ∀ e ∈ es, e.length = k) (hnk : ∀ e ∈ news, e.length = k) (hm : es.length + news.length ≤ maxLen) (hby : (es.length + news.length) * bytes ≤ 225000000000000) (hf : St.fresh d ⟨fr, bx, tk⟩ = true) (he : es ++ news = es')
    (h : DR P c ops Q st0 (⟨some (d, .row d es'), [], [(d, ⟨e, k⟩)], [id], [], [id], [d]⟩ :: done) ⟨(d, .row d es') :: fr, bx, (d, ⟨e, k⟩) :: delT [id] tk⟩ rest) : DR P c ops Q st0 done ⟨fr, bx, tk⟩ (⟨some d, .call { callee := .builtin .append, args := #[x, y], argTypes := #[t, t'] }, ty, pos, aft, none⟩ :: rest) :=
  DR.cons (e := ⟨some (d, .row d es'), [], [(d, ⟨e, k⟩)], [id], [], [id], [d]⟩) (fun st' hag Q' hL => LW.out (s_append (fr := st'.fr) (bx := st'.bx) (tk := st'.tk) hlt ((hag.ev x (by simp [Op.operands, Call.operands])).trans hx) ((hag.tk id (by simp)).trans htk) ((congrArg AV.sl? (hag.ev y (by simp [Op.operands, Call.operands]))).trans hy) hes hnk hm hby (hag.fs d (by simp)) he (s_nil hL))) h

theorem d_appendNil {t t' e : TypeId} {x y : Operand} {k bytes : Nat} {news : List (List IV)} (hlt : Nat.ble (d + 1) c.nt = true) (hx : St.ev ⟨fr, bx, tk⟩ x = .nils) (hy : (St.ev ⟨fr, bx, tk⟩ y).sl? = some news) [ha : AppTy P t e k bytes] [hs : SliceTy P t' e k] (hnk : ∀ e ∈ news, e.length = k) (hm : news.length ≤ maxLen) (hby : news.length * bytes ≤ 225000000000000) (hf : St.fresh d ⟨fr, bx, tk⟩ = true)
    (h : DR P c ops Q st0 (⟨some (d, .row d news), [], [(d, ⟨e, k⟩)], [d], [], [], [d]⟩ :: done) ⟨(d, .row d news) :: fr, bx, (d, ⟨e, k⟩) :: delT [d] tk⟩ rest) : DR P c ops Q st0 done ⟨fr, bx, tk⟩ (⟨some d, .call { callee := .builtin .append, args := #[x, y], argTypes := #[t, t'] }, ty, pos, aft, none⟩ :: rest) :=
  DR.cons (e := ⟨some (d, .row d news), [], [(d, ⟨e, k⟩)], [d], [], [], [d]⟩) (fun st' hag Q' hL => LW.out (s_appendNil (fr := st'.fr) (bx := st'.bx) (tk := st'.tk) hlt ((hag.ev x (by simp [Op.operands, Call.operands])).trans hx) ((congrArg AV.sl? (hag.ev y (by simp [Op.operands, Call.operands]))).trans hy) hnk hm hby (hag.fs d (by simp)) (s_nil hL))) h

theorem d_appendS {t t' e : TypeId} {x y : Operand} {id bytes : Nat} {es es' : List (List IV)} {s : List UInt8} (hlt : Nat.ble (d + 1) c.nt = true) (hx : St.ev ⟨fr, bx, tk⟩ x = .row id es) (htk : tk.lookup id = some ⟨e, 1⟩) (hy : St.ev ⟨fr, bx, tk⟩ y = aS s) [ha : AppTy P t e 1 bytes] [hs : StrTy P t'] (hes : ∀ e ∈ es, e.length = 1) (hm : es.length + s.length ≤ maxLen) (hby : (es.length + s.length) * bytes ≤ 225000000000000) (hf : St.fresh d ⟨fr, bx, tk⟩ = true) (he : (es ++ s.map fun b => [IV.im (.int .u8 b.toNat)]) = es')
    (h : DR P c ops Q st0 (⟨some (d, .row d es'), [], [(d, ⟨e, 1⟩)], [id], [], [id], [d]⟩ :: done) ⟨(d, .row d es') :: fr, bx, (d, ⟨e, 1⟩) :: delT [id] tk⟩ rest) : DR P c ops Q st0 done ⟨fr, bx, tk⟩ (⟨some d, .call { callee := .builtin .append, args := #[x, y], argTypes := #[t, t'] }, ty, pos, aft, none⟩ :: rest) :=
  DR.cons (e := ⟨some (d, .row d es'), [], [(d, ⟨e, 1⟩)], [id], [], [id], [d]⟩) (fun st' hag Q' hL => LW.out (s_appendS (fr := st'.fr) (bx := st'.bx) (tk := st'.tk) hlt ((hag.ev x (by simp [Op.operands, Call.operands])).trans hx) ((hag.tk id (by simp)).trans htk) ((hag.ev y (by simp [Op.operands, Call.operands])).trans hy) hes hm hby (hag.fs d (by simp)) he (s_nil hL))) h

theorem d_call0 {f : FuncId} {args : Array Operand} {ats : Array TypeId} {as : List AV} {res : AV} (hlt : Nat.ble (d + 1) c.nt = true) [hok : CallTy P f] (hc : CallA P f as [] [] [] res) (ha : AV.pub.pubs (args.toList.map (St.ev ⟨fr, bx, tk⟩)) = as) (hmr : AV.mentIn [] res = true)
    (h : DR P c ops Q st0 (⟨some (d, res), [], [], [], [], [], []⟩ :: done) ⟨(d, res) :: fr, bx, tk⟩ rest) : DR P c ops Q st0 done ⟨fr, bx, tk⟩ (⟨some d, .call { callee := .value (.func f), args := args, argTypes := ats }, ty, pos, aft, none⟩ :: rest) :=
  DR.cons (e := ⟨some (d, res), [], [], [], [], [], []⟩) (fun st' hag Q' hL => LW.out (s_call0 (fr := st'.fr) (bx := st'.bx) (tk := st'.tk) hlt hc ((by rw [agL hag (fun x hx => by simp [Op.operands, Call.operands, hx])]; exact ha)) hmr (s_nil hL))) h

theorem d_callRow {f : FuncId} {args : Array Operand} {ats : Array TypeId} {as : List AV} {t : Tok} {es : List (List IV)} (hlt : Nat.ble (d + 1) c.nt = true) [hok : CallTy P f] (hc : CallA P f as [] [] [(d, t)] (.row d es)) (ha : AV.pub.pubs (args.toList.map (St.ev ⟨fr, bx, tk⟩)) = as) (hf : St.fresh d ⟨fr, bx, tk⟩ = true)
    (h : DR P c ops Q st0 (⟨some (d, .row d es), [], [(d, t)], [], [], [], [d]⟩ :: done) ⟨(d, .row d es) :: fr, bx, (d, t) :: tk⟩ rest) : DR P c ops Q st0 done ⟨fr, bx, tk⟩ (⟨some d, .call { callee := .value (.func f), args := args, argTypes := ats }, ty, pos, aft, none⟩ :: rest) :=
  DR.cons (e := ⟨some (d, .row d es), [], [(d, t)], [], [], [], [d]⟩) (fun st' hag Q' hL => LW.out (s_callRow (fr := st'.fr) (bx := st'.bx) (tk := st'.tk) hlt hc ((by rw [agL hag (fun x hx => by simp [Op.operands, Call.operands, hx])]; exact ha)) (hag.fs d (by simp)) (s_nil hL))) h

theorem d_pickTIv {x y z : Operand} {y1 : IV} {b : Bool} (hlt : Nat.ble (d + 1) c.nt = true) (hx : St.ev ⟨fr, bx, tk⟩ x = aB b) (hb : b = true) (hy : St.ev ⟨fr, bx, tk⟩ y = .iv y1)
    (h : DR P c ops Q st0 (⟨some (d, .iv y1), [], [], [], [], [], []⟩ :: done) ⟨(d, .iv y1) :: fr, bx, tk⟩ rest) : DR P c ops Q st0 done ⟨fr, bx, tk⟩ (⟨some d, .pick x y z, ty, pos, aft, none⟩ :: rest) :=
  DR.cons (e := ⟨some (d, .iv y1), [], [], [], [], [], []⟩) (fun st' hag Q' hL => LW.out (s_pickTIv (fr := st'.fr) (bx := st'.bx) (tk := st'.tk) hlt ((hag.ev x (by simp [Op.operands, Call.operands])).trans hx) hb ((hag.ev y (by simp [Op.operands, Call.operands])).trans hy) (s_nil hL))) h

theorem d_pickFIv {x y z : Operand} {y1 : IV} {b : Bool} (hlt : Nat.ble (d + 1) c.nt = true) (hx : St.ev ⟨fr, bx, tk⟩ x = aB b) (hb : b = false) (hy : St.ev ⟨fr, bx, tk⟩ z = .iv y1)
    (h : DR P c ops Q st0 (⟨some (d, .iv y1), [], [], [], [], [], []⟩ :: done) ⟨(d, .iv y1) :: fr, bx, tk⟩ rest) : DR P c ops Q st0 done ⟨fr, bx, tk⟩ (⟨some d, .pick x y z, ty, pos, aft, none⟩ :: rest) :=
  DR.cons (e := ⟨some (d, .iv y1), [], [], [], [], [], []⟩) (fun st' hag Q' hL => LW.out (s_pickFIv (fr := st'.fr) (bx := st'.bx) (tk := st'.tk) hlt ((hag.ev x (by simp [Op.operands, Call.operands])).trans hx) hb ((hag.ev z (by simp [Op.operands, Call.operands])).trans hy) (s_nil hL))) h

theorem d_pickTRow {x y z : Operand} {id : Nat} {es : List (List IV)} {b : Bool} (hlt : Nat.ble (d + 1) c.nt = true) (hx : St.ev ⟨fr, bx, tk⟩ x = aB b) (hb : b = true) (hy : St.ev ⟨fr, bx, tk⟩ y = .row id es)
    (h : DR P c ops Q st0 (⟨some (d, .row id es), [], [], [], [], [], []⟩ :: done) ⟨(d, .row id es) :: fr, bx, tk⟩ rest) : DR P c ops Q st0 done ⟨fr, bx, tk⟩ (⟨some d, .pick x y z, ty, pos, aft, none⟩ :: rest) :=
  DR.cons (e := ⟨some (d, .row id es), [], [], [], [], [], []⟩) (fun st' hag Q' hL => LW.out (s_pickTRow (fr := st'.fr) (bx := st'.bx) (tk := st'.tk) hlt ((hag.ev x (by simp [Op.operands, Call.operands])).trans hx) hb ((hag.ev y (by simp [Op.operands, Call.operands])).trans hy) (s_nil hL))) h

theorem d_pickFRow {x y z : Operand} {id : Nat} {es : List (List IV)} {b : Bool} (hlt : Nat.ble (d + 1) c.nt = true) (hx : St.ev ⟨fr, bx, tk⟩ x = aB b) (hb : b = false) (hy : St.ev ⟨fr, bx, tk⟩ z = .row id es)
    (h : DR P c ops Q st0 (⟨some (d, .row id es), [], [], [], [], [], []⟩ :: done) ⟨(d, .row id es) :: fr, bx, tk⟩ rest) : DR P c ops Q st0 done ⟨fr, bx, tk⟩ (⟨some d, .pick x y z, ty, pos, aft, none⟩ :: rest) :=
  DR.cons (e := ⟨some (d, .row id es), [], [], [], [], [], []⟩) (fun st' hag Q' hL => LW.out (s_pickFRow (fr := st'.fr) (bx := st'.bx) (tk := st'.tk) hlt ((hag.ev x (by simp [Op.operands, Call.operands])).trans hx) hb ((hag.ev z (by simp [Op.operands, Call.operands])).trans hy) (s_nil hL))) h

theorem d_pickTPtr {x y z : Operand} {id off : Nat} {b : Bool} (hlt : Nat.ble (d + 1) c.nt = true) (hx : St.ev ⟨fr, bx, tk⟩ x = aB b) (hb : b = true) (hy : St.ev ⟨fr, bx, tk⟩ y = .ptr id off)
    (h : DR P c ops Q st0 (⟨some (d, .ptr id off), [], [], [], [], [], []⟩ :: done) ⟨(d, .ptr id off) :: fr, bx, tk⟩ rest) : DR P c ops Q st0 done ⟨fr, bx, tk⟩ (⟨some d, .pick x y z, ty, pos, aft, none⟩ :: rest) :=
  DR.cons (e := ⟨some (d, .ptr id off), [], [], [], [], [], []⟩) (fun st' hag Q' hL => LW.out (s_pickTPtr (fr := st'.fr) (bx := st'.bx) (tk := st'.tk) hlt ((hag.ev x (by simp [Op.operands, Call.operands])).trans hx) hb ((hag.ev y (by simp [Op.operands, Call.operands])).trans hy) (s_nil hL))) h

theorem d_pickFPtr {x y z : Operand} {id off : Nat} {b : Bool} (hlt : Nat.ble (d + 1) c.nt = true) (hx : St.ev ⟨fr, bx, tk⟩ x = aB b) (hb : b = false) (hy : St.ev ⟨fr, bx, tk⟩ z = .ptr id off)
    (h : DR P c ops Q st0 (⟨some (d, .ptr id off), [], [], [], [], [], []⟩ :: done) ⟨(d, .ptr id off) :: fr, bx, tk⟩ rest) : DR P c ops Q st0 done ⟨fr, bx, tk⟩ (⟨some d, .pick x y z, ty, pos, aft, none⟩ :: rest) :=
  DR.cons (e := ⟨some (d, .ptr id off), [], [], [], [], [], []⟩) (fun st' hag Q' hL => LW.out (s_pickFPtr (fr := st'.fr) (bx := st'.bx) (tk := st'.tk) hlt ((hag.ev x (by simp [Op.operands, Call.operands])).trans hx) hb ((hag.ev z (by simp [Op.operands, Call.operands])).trans hy) (s_nil hL))) h

theorem d_pickTAgg {x y z : Operand} {cs : List AV} {b : Bool} (hlt : Nat.ble (d + 1) c.nt = true) (hx : St.ev ⟨fr, bx, tk⟩ x = aB b) (hb : b = true) (hy : St.ev ⟨fr, bx, tk⟩ y = .agg cs)
    (h : DR P c ops Q st0 (⟨some (d, .agg cs), [], [], [], [], [], []⟩ :: done) ⟨(d, .agg cs) :: fr, bx, tk⟩ rest) : DR P c ops Q st0 done ⟨fr, bx, tk⟩ (⟨some d, .pick x y z, ty, pos, aft, none⟩ :: rest) :=
  DR.cons (e := ⟨some (d, .agg cs), [], [], [], [], [], []⟩) (fun st' hag Q' hL => LW.out (s_pickTAgg (fr := st'.fr) (bx := st'.bx) (tk := st'.tk) hlt ((hag.ev x (by simp [Op.operands, Call.operands])).trans hx) hb ((hag.ev y (by simp [Op.operands, Call.operands])).trans hy) (s_nil hL))) h

theorem d_pickFAgg {x y z : Operand} {cs : List AV} {b : Bool} (hlt : Nat.ble (d + 1) c.nt = true) (hx : St.ev ⟨fr, bx, tk⟩ x = aB b) (hb : b = false) (hy : St.ev ⟨fr, bx, tk⟩ z = .agg cs)
    (h : DR P c ops Q st0 (⟨some (d, .agg cs), [], [], [], [], [], []⟩ :: done) ⟨(d, .agg cs) :: fr, bx, tk⟩ rest) : DR P c ops Q st0 done ⟨fr, bx, tk⟩ (⟨some d, .pick x y z, ty, pos, aft, none⟩ :: rest) :=
  DR.cons (e := ⟨some (d, .agg cs), [], [], [], [], [], []⟩) (fun st' hag Q' hL => LW.out (s_pickFAgg (fr := st'.fr) (bx := st'.bx) (tk := st'.tk) hlt ((hag.ev x (by simp [Op.operands, Call.operands])).trans hx) hb ((hag.ev z (by simp [Op.operands, Call.operands])).trans hy) (s_nil hL))) h

theorem d_pickTEl {x y z : Operand} {cs : List IV} {b : Bool} (hlt : Nat.ble (d + 1) c.nt = true) (hx : St.ev ⟨fr, bx, tk⟩ x = aB b) (hb : b = true) (hy : St.ev ⟨fr, bx, tk⟩ y = .el cs)
    (h : DR P c ops Q st0 (⟨some (d, .el cs), [], [], [], [], [], []⟩ :: done) ⟨(d, .el cs) :: fr, bx, tk⟩ rest) : DR P c ops Q st0 done ⟨fr, bx, tk⟩ (⟨some d, .pick x y z, ty, pos, aft, none⟩ :: rest) :=
  DR.cons (e := ⟨some (d, .el cs), [], [], [], [], [], []⟩) (fun st' hag Q' hL => LW.out (s_pickTEl (fr := st'.fr) (bx := st'.bx) (tk := st'.tk) hlt ((hag.ev x (by simp [Op.operands, Call.operands])).trans hx) hb ((hag.ev y (by simp [Op.operands, Call.operands])).trans hy) (s_nil hL))) h

theorem d_pickFEl {x y z : Operand} {cs : List IV} {b : Bool} (hlt : Nat.ble (d + 1) c.nt = true) (hx : St.ev ⟨fr, bx, tk⟩ x = aB b) (hb : b = false) (hy : St.ev ⟨fr, bx, tk⟩ z = .el cs)
    (h : DR P c ops Q st0 (⟨some (d, .el cs), [], [], [], [], [], []⟩ :: done) ⟨(d, .el cs) :: fr, bx, tk⟩ rest) : DR P c ops Q st0 done ⟨fr, bx, tk⟩ (⟨some d, .pick x y z, ty, pos, aft, none⟩ :: rest) :=
  DR.cons (e := ⟨some (d, .el cs), [], [], [], [], [], []⟩) (fun st' hag Q' hL => LW.out (s_pickFEl (fr := st'.fr) (bx := st'.bx) (tk := st'.tk) hlt ((hag.ev x (by simp [Op.operands, Call.operands])).trans hx) hb ((hag.ev z (by simp [Op.operands, Call.operands])).trans hy) (s_nil hL))) h

theorem d_pickTNil {x y z : Operand} {b : Bool} (hlt : Nat.ble (d + 1) c.nt = true) (hx : St.ev ⟨fr, bx, tk⟩ x = aB b) (hb : b = true) (hy : St.ev ⟨fr, bx, tk⟩ y = .nils)
    (h : DR P c ops Q st0 (⟨some (d, .nils), [], [], [], [], [], []⟩ :: done) ⟨(d, .nils) :: fr, bx, tk⟩ rest) : DR P c ops Q st0 done ⟨fr, bx, tk⟩ (⟨some d, .pick x y z, ty, pos, aft, none⟩ :: rest) :=
  DR.cons (e := ⟨some (d, .nils), [], [], [], [], [], []⟩) (fun st' hag Q' hL => LW.out (s_pickTNil (fr := st'.fr) (bx := st'.bx) (tk := st'.tk) hlt ((hag.ev x (by simp [Op.operands, Call.operands])).trans hx) hb ((hag.ev y (by simp [Op.operands, Call.operands])).trans hy) (s_nil hL))) h

theorem d_pickFNil {x y z : Operand} {b : Bool} (hlt : Nat.ble (d + 1) c.nt = true) (hx : St.ev ⟨fr, bx, tk⟩ x = aB b) (hb : b = false) (hy : St.ev ⟨fr, bx, tk⟩ z = .nils)
    (h : DR P c ops Q st0 (⟨some (d, .nils), [], [], [], [], [], []⟩ :: done) ⟨(d, .nils) :: fr, bx, tk⟩ rest) : DR P c ops Q st0 done ⟨fr, bx, tk⟩ (⟨some d, .pick x y z, ty, pos, aft, none⟩ :: rest) :=
  DR.cons (e := ⟨some (d, .nils), [], [], [], [], [], []⟩) (fun st' hag Q' hL => LW.out (s_pickFNil (fr := st'.fr) (bx := st'.bx) (tk := st'.tk) hlt ((hag.ev x (by simp [Op.operands, Call.operands])).trans hx) hb ((hag.ev z (by simp [Op.operands, Call.operands])).trans hy) (s_nil hL))) h

theorem d_pickTAny {x y z : Operand} {b : Bool} (hlt : Nat.ble (d + 1) c.nt = true) (hx : St.ev ⟨fr, bx, tk⟩ x = aB b) (hb : b = true) (hy : St.ev ⟨fr, bx, tk⟩ y = .any)
    (h : DR P c ops Q st0 (⟨some (d, .any), [], [], [], [], [], []⟩ :: done) ⟨(d, .any) :: fr, bx, tk⟩ rest) : DR P c ops Q st0 done ⟨fr, bx, tk⟩ (⟨some d, .pick x y z, ty, pos, aft, none⟩ :: rest) :=
  DR.cons (e := ⟨some (d, .any), [], [], [], [], [], []⟩) (fun st' hag Q' hL => LW.out (s_pickTAny (fr := st'.fr) (bx := st'.bx) (tk := st'.tk) hlt ((hag.ev x (by simp [Op.operands, Call.operands])).trans hx) hb ((hag.ev y (by simp [Op.operands, Call.operands])).trans hy) (s_nil hL))) h

theorem d_pickFAny {x y z : Operand} {b : Bool} (hlt : Nat.ble (d + 1) c.nt = true) (hx : St.ev ⟨fr, bx, tk⟩ x = aB b) (hb : b = false) (hy : St.ev ⟨fr, bx, tk⟩ z = .any)
    (h : DR P c ops Q st0 (⟨some (d, .any), [], [], [], [], [], []⟩ :: done) ⟨(d, .any) :: fr, bx, tk⟩ rest) : DR P c ops Q st0 done ⟨fr, bx, tk⟩ (⟨some d, .pick x y z, ty, pos, aft, none⟩ :: rest) :=
  DR.cons (e := ⟨some (d, .any), [], [], [], [], [], []⟩) (fun st' hag Q' hL => LW.out (s_pickFAny (fr := st'.fr) (bx := st'.bx) (tk := st'.tk) hlt ((hag.ev x (by simp [Op.operands, Call.operands])).trans hx) hb ((hag.ev z (by simp [Op.operands, Call.operands])).trans hy) (s_nil hL))) h

theorem d_lenBsl {x : Operand} {t e : TypeId} {k id off n cap : Nat} (hlt : Nat.ble (d + 1) c.nt = true) (hx : St.ev ⟨fr, bx, tk⟩ x = .bsl id off n cap) [hs : SliceTy P t e k]
    (h : DR P c ops Q st0 (⟨some (d, aI n), [], [], [], [], [], []⟩ :: done) ⟨(d, aI n) :: fr, bx, tk⟩ rest) : DR P c ops Q st0 done ⟨fr, bx, tk⟩ (⟨some d, .call { callee := .builtin .len, args := #[x], argTypes := #[t] }, ty, pos, aft, none⟩ :: rest) :=
  DR.cons (e := ⟨some (d, aI n), [], [], [], [], [], []⟩) (fun st' hag Q' hL => LW.out (s_lenBsl (fr := st'.fr) (bx := st'.bx) (tk := st'.tk) hlt ((hag.ev x (by simp [Op.operands, Call.operands])).trans hx) (s_nil hL))) h

theorem d_lenBsh {x : Operand} {t e : TypeId} {k id off n k' : Nat} (hlt : Nat.ble (d + 1) c.nt = true) (hx : St.ev ⟨fr, bx, tk⟩ x = .bsh id off n k') [hs : SliceTy P t e k]
    (h : DR P c ops Q st0 (⟨some (d, aI n), [], [], [], [], [], []⟩ :: done) ⟨(d, aI n) :: fr, bx, tk⟩ rest) : DR P c ops Q st0 done ⟨fr, bx, tk⟩ (⟨some d, .call { callee := .builtin .len, args := #[x], argTypes := #[t] }, ty, pos, aft, none⟩ :: rest) :=
  DR.cons (e := ⟨some (d, aI n), [], [], [], [], [], []⟩) (fun st' hag Q' hL => LW.out (s_lenBsh (fr := st'.fr) (bx := st'.bx) (tk := st'.tk) hlt ((hag.ev x (by simp [Op.operands, Call.operands])).trans hx) (s_nil hL))) h

theorem d_capBsl {x : Operand} {t e : TypeId} {k id off n cap : Nat} (hlt : Nat.ble (d + 1) c.nt = true) (hx : St.ev ⟨fr, bx, tk⟩ x = .bsl id off n cap) [hs : SliceTy P t e k]
    (h : DR P c ops Q st0 (⟨some (d, aI cap), [], [], [], [], [], []⟩ :: done) ⟨(d, aI cap) :: fr, bx, tk⟩ rest) : DR P c ops Q st0 done ⟨fr, bx, tk⟩ (⟨some d, .call { callee := .builtin .cap, args := #[x], argTypes := #[t] }, ty, pos, aft, none⟩ :: rest) :=
  DR.cons (e := ⟨some (d, aI cap), [], [], [], [], [], []⟩) (fun st' hag Q' hL => LW.out (s_capBsl (fr := st'.fr) (bx := st'.bx) (tk := st'.tk) hlt ((hag.ev x (by simp [Op.operands, Call.operands])).trans hx) (s_nil hL))) h

theorem d_mvBsl {x : Operand} {id off n cap : Nat} (hlt : Nat.ble (d + 1) c.nt = true) (hx : St.ev ⟨fr, bx, tk⟩ x = .bsl id off n cap)
    (h : DR P c ops Q st0 (⟨some (d, .bsl id off n cap), [], [], [], [], [], []⟩ :: done) ⟨(d, .bsl id off n cap) :: fr, bx, tk⟩ rest) : DR P c ops Q st0 done ⟨fr, bx, tk⟩ (⟨some d, .move x, ty, pos, aft, none⟩ :: rest) :=
  DR.cons (e := ⟨some (d, .bsl id off n cap), [], [], [], [], [], []⟩) (fun st' hag Q' hL => LW.out (s_mvBsl (fr := st'.fr) (bx := st'.bx) (tk := st'.tk) hlt ((hag.ev x (by simp [Op.operands, Call.operands])).trans hx) (s_nil hL))) h

theorem d_mvBsh {x : Operand} {id off n k : Nat} (hlt : Nat.ble (d + 1) c.nt = true) (hx : St.ev ⟨fr, bx, tk⟩ x = .bsh id off n k)
    (h : DR P c ops Q st0 (⟨some (d, .bsh id off n k), [], [], [], [], [], []⟩ :: done) ⟨(d, .bsh id off n k) :: fr, bx, tk⟩ rest) : DR P c ops Q st0 done ⟨fr, bx, tk⟩ (⟨some d, .move x, ty, pos, aft, none⟩ :: rest) :=
  DR.cons (e := ⟨some (d, .bsh id off n k), [], [], [], [], [], []⟩) (fun st' hag Q' hL => LW.out (s_mvBsh (fr := st'.fr) (bx := st'.bx) (tk := st'.tk) hlt ((hag.ev x (by simp [Op.operands, Call.operands])).trans hx) (s_nil hL))) h

theorem d_asBsl {x : Operand} {id off n cap : Nat} (hlt : Nat.ble (d + 1) c.nt = true) (hx : St.ev ⟨fr, bx, tk⟩ x = .bsl id off n cap)
    (h : DR P c ops Q st0 (⟨some (d, .bsl id off n cap), [], [], [], [], [], []⟩ :: done) ⟨(d, .bsl id off n cap) :: fr, bx, tk⟩ rest) : DR P c ops Q st0 done ⟨fr, bx, tk⟩ (⟨some d, .assign x, ty, pos, aft, none⟩ :: rest) :=
  DR.cons (e := ⟨some (d, .bsl id off n cap), [], [], [], [], [], []⟩) (fun st' hag Q' hL => LW.out (s_asBsl (fr := st'.fr) (bx := st'.bx) (tk := st'.tk) hlt ((hag.ev x (by simp [Op.operands, Call.operands])).trans hx) (s_nil hL))) h

theorem d_asBsh {x : Operand} {id off n k : Nat} (hlt : Nat.ble (d + 1) c.nt = true) (hx : St.ev ⟨fr, bx, tk⟩ x = .bsh id off n k)
    (h : DR P c ops Q st0 (⟨some (d, .bsh id off n k), [], [], [], [], [], []⟩ :: done) ⟨(d, .bsh id off n k) :: fr, bx, tk⟩ rest) : DR P c ops Q st0 done ⟨fr, bx, tk⟩ (⟨some d, .assign x, ty, pos, aft, none⟩ :: rest) :=
  DR.cons (e := ⟨some (d, .bsh id off n k), [], [], [], [], [], []⟩) (fun st' hag Q' hL => LW.out (s_asBsh (fr := st'.fr) (bx := st'.bx) (tk := st'.tk) hlt ((hag.ev x (by simp [Op.operands, Call.operands])).trans hx) (s_nil hL))) h

theorem d_indexBsl {t e : TypeId} {x i : Operand} {k id off n cap off' : Nat} {kd : IntKind} {j : Int} (hlt : Nat.ble (d + 1) c.nt = true) (hx : St.ev ⟨fr, bx, tk⟩ x = .bsl id off n cap) (hj : St.ev ⟨fr, bx, tk⟩ i = .iv (.im (.int kd j))) [hs : SliceTy P t e k] (h0 : 0 ≤ j) (h1 : j < n) (ho : off + j.toNat * k = off')
    (h : DR P c ops Q st0 (⟨some (d, .ptr id off'), [], [], [], [], [], []⟩ :: done) ⟨(d, .ptr id off') :: fr, bx, tk⟩ rest) : DR P c ops Q st0 done ⟨fr, bx, tk⟩ (⟨some d, .indexAddr t x i, ty, pos, aft, none⟩ :: rest) :=
  DR.cons (e := ⟨some (d, .ptr id off'), [], [], [], [], [], []⟩) (fun st' hag Q' hL => LW.out (s_indexBsl (fr := st'.fr) (bx := st'.bx) (tk := st'.tk) hlt ((hag.ev x (by simp [Op.operands, Call.operands])).trans hx) ((hag.ev i (by simp [Op.operands, Call.operands])).trans hj) h0 h1 ho (s_nil hL))) h

theorem d_indexBsh {t e : TypeId} {x i : Operand} {k id off n off' : Nat} {kd : IntKind} {j : Int} (hlt : Nat.ble (d + 1) c.nt = true) (hx : St.ev ⟨fr, bx, tk⟩ x = .bsh id off n k) (hj : St.ev ⟨fr, bx, tk⟩ i = .iv (.im (.int kd j))) [hs : SliceTy P t e k] (h0 : 0 ≤ j) (h1 : j < n) (ho : (off + j.toNat) * k = off')
    (h : DR P c ops Q st0 (⟨some (d, .ptr id off'), [], [], [], [], [], []⟩ :: done) ⟨(d, .ptr id off') :: fr, bx, tk⟩ rest) : DR P c ops Q st0 done ⟨fr, bx, tk⟩ (⟨some d, .indexAddr t x i, ty, pos, aft, none⟩ :: rest) :=
  DR.cons (e := ⟨some (d, .ptr id off'), [], [], [], [], [], []⟩) (fun st' hag Q' hL => LW.out (s_indexBsh (fr := st'.fr) (bx := st'.bx) (tk := st'.tk) hlt ((hag.ev x (by simp [Op.operands, Call.operands])).trans hx) ((hag.ev i (by simp [Op.operands, Call.operands])).trans hj) h0 h1 ho (s_nil hL))) h

theorem d_slBl {x y : Operand} {t e : TypeId} {k id off n cap off' n' cap' : Nat} {kd : IntKind} {j : Int} (hlt : Nat.ble (d + 1) c.nt = true) (hx : St.ev ⟨fr, bx, tk⟩ x = .bsl id off n cap) (hy : St.ev ⟨fr, bx, tk⟩ y = .iv (.im (.int kd j))) [hs : SliceTy P t e k] (h0 : 0 ≤ j) (h1 : j ≤ n) (e1 : off + j.toNat * k = off') (e2 : n - j.toNat = n') (e3 : cap - j.toNat = cap')
    (h : DR P c ops Q st0 (⟨some (d, .bsl id off' n' cap'), [], [], [], [], [], []⟩ :: done) ⟨(d, .bsl id off' n' cap') :: fr, bx, tk⟩ rest) : DR P c ops Q st0 done ⟨fr, bx, tk⟩ (⟨some d, .slice t x (some y) none none, ty, pos, aft, none⟩ :: rest) :=
  DR.cons (e := ⟨some (d, .bsl id off' n' cap'), [], [], [], [], [], []⟩) (fun st' hag Q' hL => LW.out (s_slBl (fr := st'.fr) (bx := st'.bx) (tk := st'.tk) hlt ((hag.ev x (by simp [Op.operands, Call.operands])).trans hx) ((hag.ev y (by simp [Op.operands, Call.operands])).trans hy) h0 h1 e1 e2 e3 (s_nil hL))) h

theorem d_slBh {x y : Operand} {t e : TypeId} {k id off n cap n' : Nat} {kd : IntKind} {j : Int} (hlt : Nat.ble (d + 1) c.nt = true) (hx : St.ev ⟨fr, bx, tk⟩ x = .bsl id off n cap) (hy : St.ev ⟨fr, bx, tk⟩ y = .iv (.im (.int kd j))) [hs : SliceTy P t e k] (h0 : 0 ≤ j) (h1 : j ≤ cap) (e2 : j.toNat = n')
    (h : DR P c ops Q st0 (⟨some (d, .bsl id off n' cap), [], [], [], [], [], []⟩ :: done) ⟨(d, .bsl id off n' cap) :: fr, bx, tk⟩ rest) : DR P c ops Q st0 done ⟨fr, bx, tk⟩ (⟨some d, .slice t x none (some y) none, ty, pos, aft, none⟩ :: rest) :=
  DR.cons (e := ⟨some (d, .bsl id off n' cap), [], [], [], [], [], []⟩) (fun st' hag Q' hL => LW.out (s_slBh (fr := st'.fr) (bx := st'.bx) (tk := st'.tk) hlt ((hag.ev x (by simp [Op.operands, Call.operands])).trans hx) ((hag.ev y (by simp [Op.operands, Call.operands])).trans hy) h0 h1 e2 (s_nil hL))) h

theorem d_slBlh {x y z : Operand} {t e : TypeId} {k id off n cap off' n' cap' : Nat} {kd kd' : IntKind} {i j : Int} (hlt : Nat.ble (d + 1) c.nt = true) (hx : St.ev ⟨fr, bx, tk⟩ x = .bsl id off n cap) (hy : St.ev ⟨fr, bx, tk⟩ y = .iv (.im (.int kd i))) (hz : St.ev ⟨fr, bx, tk⟩ z = .iv (.im (.int kd' j))) [hs : SliceTy P t e k] (h0 : 0 ≤ i) (h1 : i ≤ j) (h2 : j ≤ cap) (e1 : off + i.toNat * k = off') (e2 : j.toNat - i.toNat = n') (e3 : cap - i.toNat = cap')
    (h : DR P c ops Q st0 (⟨some (d, .bsl id off' n' cap'), [], [], [], [], [], []⟩ :: done) ⟨(d, .bsl id off' n' cap') :: fr, bx, tk⟩ rest) : DR P c ops Q st0 done ⟨fr, bx, tk⟩ (⟨some d, .slice t x (some y) (some z) none, ty, pos, aft, none⟩ :: rest) :=
  DR.cons (e := ⟨some (d, .bsl id off' n' cap'), [], [], [], [], [], []⟩) (fun st' hag Q' hL => LW.out (s_slBlh (fr := st'.fr) (bx := st'.bx) (tk := st'.tk) hlt ((hag.ev x (by simp [Op.operands, Call.operands])).trans hx) ((hag.ev y (by simp [Op.operands, Call.operands])).trans hy) ((hag.ev z (by simp [Op.operands, Call.operands])).trans hz) h0 h1 h2 e1 e2 e3 (s_nil hL))) h

theorem d_slB3 {x y z u : Operand} {t e : TypeId} {k id off n cap : Nat} {kd kd' kd'' : IntKind} {i j m : Int} (hlt : Nat.ble (d + 1) c.nt = true) (hx : St.ev ⟨fr, bx, tk⟩ x = .bsl id off n cap) (hy : St.ev ⟨fr, bx, tk⟩ y = .iv (.im (.int kd i))) (hz : St.ev ⟨fr, bx, tk⟩ z = .iv (.im (.int kd' j))) (hu : St.ev ⟨fr, bx, tk⟩ u = .iv (.im (.int kd'' m))) [hs : SliceTy P t e k] (h0 : 0 ≤ i) (h1 : i ≤ j) (h2 : j ≤ m) (h3 : m ≤ cap)
    (h : DR P c ops Q st0 (⟨some (d, .bsl id (off + i.toNat * k) (j.toNat - i.toNat) (m.toNat - i.toNat)), [], [], [], [], [], []⟩ :: done) ⟨(d, .bsl id (off + i.toNat * k) (j.toNat - i.toNat) (m.toNat - i.toNat)) :: fr, bx, tk⟩ rest) : DR P c ops Q st0 done ⟨fr, bx, tk⟩ (⟨some d, .slice t x (some y) (some z) (some u), ty, pos, aft, none⟩ :: rest) :=
  DR.cons (e := ⟨some (d, .bsl id (off + i.toNat * k) (j.toNat - i.toNat) (m.toNat - i.toNat)), [], [], [], [], [], []⟩) (fun st' hag Q' hL => LW.out (s_slB3 (fr := st'.fr) (bx := st'.bx) (tk := st'.tk) hlt ((hag.ev x (by simp [Op.operands, Call.operands])).trans hx) ((hag.ev y (by simp [Op.operands, Call.operands])).trans hy) ((hag.ev z (by simp [Op.operands, Call.operands])).trans hz) ((hag.ev u (by simp [Op.operands, Call.operands])).trans hu) h0 h1 h2 h3 (s_nil hL))) h

theorem d_eqlNil {x y : Operand} {t t' e : TypeId} {k : Nat} {es : List (List IV)} (hlt : Nat.ble (d + 1) c.nt = true) (hx : (St.ev ⟨fr, bx, tk⟩ x).sl? = some es) (hy : St.ev ⟨fr, bx, tk⟩ y = .nils) [hs : SliceTy P t e k] (hne : es ≠ [])
    (h : DR P c ops Q st0 (⟨some (d, aB false), [], [], [], [], [], []⟩ :: done) ⟨(d, aB false) :: fr, bx, tk⟩ rest) : DR P c ops Q st0 done ⟨fr, bx, tk⟩ (⟨some d, .binOp .eql t x y t', ty, pos, aft, none⟩ :: rest) :=
  DR.cons (e := ⟨some (d, aB false), [], [], [], [], [], []⟩) (fun st' hag Q' hL => LW.out (s_eqlNil (fr := st'.fr) (bx := st'.bx) (tk := st'.tk) hlt ((congrArg AV.sl? (hag.ev x (by simp [Op.operands, Call.operands]))).trans hx) ((hag.ev y (by simp [Op.operands, Call.operands])).trans hy) hne (s_nil hL))) h

theorem d_app0 {x y : Operand} {t t' e e' : TypeId} {k k' : Nat} (hlt : Nat.ble (d + 1) c.nt = true) (hx : (St.ev ⟨fr, bx, tk⟩ x).sl? = some []) (hy : (St.ev ⟨fr, bx, tk⟩ y).sl? = some []) [hs : SliceTy P t e k] [hs2 : SliceTy P t' e' k']
    (h : DR P c ops Q st0 (⟨some (d, .iv (.sl [])), [], [], [], [], [], []⟩ :: done) ⟨(d, .iv (.sl [])) :: fr, bx, tk⟩ rest) : DR P c ops Q st0 done ⟨fr, bx, tk⟩ (⟨some d, .call { callee := .builtin .append, args := #[x, y], argTypes := #[t, t'] }, ty, pos, aft, none⟩ :: rest) :=
  DR.cons (e := ⟨some (d, .iv (.sl [])), [], [], [], [], [], []⟩) (fun st' hag Q' hL => LW.out (s_app0 (fr := st'.fr) (bx := st'.bx) (tk := st'.tk) hlt ((congrArg AV.sl? (hag.ev x (by simp [Op.operands, Call.operands]))).trans hx) ((congrArg AV.sl? (hag.ev y (by simp [Op.operands, Call.operands]))).trans hy) (s_nil hL))) h

theorem d_load1R {t : TypeId} {x : Operand} {id off k mm i f : Nat} {bt : TypeId} {es : List (List IV)} {e : List IV} {y : IV} (hlt : Nat.ble (d + 1) c.nt = true) (hx : St.ev ⟨fr, bx, tk⟩ x = .ptr id off) [ht : VarTy P t false 1] (hb : bx.lookup id = some ⟨bt, .r es.flatten mm⟩) (hk : ∀ e ∈ es, e.length = k) (ho : off = i * k + f) (he : es[i]? = some e) (hf : e[f]? = some y)
    (h : DR P c ops Q st0 (⟨some (d, .iv y), [], [], [], [id], [], []⟩ :: done) ⟨(d, .iv y) :: fr, bx, tk⟩ rest) : DR P c ops Q st0 done ⟨fr, bx, tk⟩ (⟨some d, .load t x, ty, pos, aft, none⟩ :: rest) :=
  DR.cons (e := ⟨some (d, .iv y), [], [], [], [id], [], []⟩) (fun st' hag Q' hL => LW.out (s_load1R (fr := st'.fr) (bx := st'.bx) (tk := st'.tk) hlt ((hag.ev x (by simp [Op.operands, Call.operands])).trans hx) ((hag.bx id (by simp)).trans hb) hk ho he hf (s_nil hL))) h

theorem d_loadAR {t : TypeId} {x : Operand} {id off k mm i : Nat} {bt : TypeId} {es : List (List IV)} {e : List IV} {vs : List AV} (hlt : Nat.ble (d + 1) c.nt = true) (hx : St.ev ⟨fr, bx, tk⟩ x = .ptr id off) [ht : VarTy P t true k] (hb : bx.lookup id = some ⟨bt, .r es.flatten mm⟩) (hk : ∀ e ∈ es, e.length = k) (ho : off = i * k) (he : es[i]? = some e) (hv : e.map AV.iv = vs)
    (h : DR P c ops Q st0 (⟨some (d, .agg vs), [], [], [], [id], [], []⟩ :: done) ⟨(d, .agg vs) :: fr, bx, tk⟩ rest) : DR P c ops Q st0 done ⟨fr, bx, tk⟩ (⟨some d, .load t x, ty, pos, aft, none⟩ :: rest) :=
  DR.cons (e := ⟨some (d, .agg vs), [], [], [], [id], [], []⟩) (fun st' hag Q' hL => LW.out (s_loadAR (fr := st'.fr) (bx := st'.bx) (tk := st'.tk) hlt ((hag.ev x (by simp [Op.operands, Call.operands])).trans hx) ((hag.bx id (by simp)).trans hb) hk ho he hv (s_nil hL))) h

theorem d_overlapsR {f : FuncId} {x y : Operand} {ats : Array TypeId} {t tr e : TypeId} {k i j offi n cap offj m capj mm mm' : Nat} {bt bt' : TypeId} {xs ys : List IV} (hlt : Nat.ble (d + 1) c.nt = true) (hx : St.ev ⟨fr, bx, tk⟩ x = .bsl i offi n cap) (hy : St.ev ⟨fr, bx, tk⟩ y = .bsl j offj m capj) [hok : OvlTy P f t tr] [hs : SliceTy P t e k] (hij : (i == j) = false) (hb : bx.lookup i = some ⟨bt, .r xs mm⟩) (hb2 : bx.lookup j = some ⟨bt', .r ys mm'⟩) (hoff : cap ≠ 0) (hin : offi < xs.length) (hne : ys ≠ [])
    (h : DR P c ops Q st0 (⟨some (d, aB false), [], [], [], [i, j], [], []⟩ :: done) ⟨(d, aB false) :: fr, bx, tk⟩ rest) : DR P c ops Q st0 done ⟨fr, bx, tk⟩ (⟨some d, .call { callee := .value (.func f), args := #[x, y], argTypes := ats }, ty, pos, aft, none⟩ :: rest) :=
  DR.cons (e := ⟨some (d, aB false), [], [], [], [i, j], [], []⟩) (fun st' hag Q' hL => LW.out (s_overlapsR (fr := st'.fr) (bx := st'.bx) (tk := st'.tk) hlt ((hag.ev x (by simp [Op.operands, Call.operands])).trans hx) ((hag.ev y (by simp [Op.operands, Call.operands])).trans hy) hij ((hag.bx i (by simp)).trans hb) ((hag.bx j (by simp)).trans hb2) hoff hin hne (s_nil hL))) h

theorem d_copyRR {t t' e : TypeId} {x y : Operand} {k n cnt id off cap id' off' n' cap' mm mm' mr i i' : Nat} {bt bt' : TypeId} {es es' er : List (List IV)} (hlt : Nat.ble (d + 1) c.nt = true) (hx : St.ev ⟨fr, bx, tk⟩ x = .bsl id off n cap) (hy : St.ev ⟨fr, bx, tk⟩ y = .bsl id' off' n' cap') [hs : SliceTy P t e k] (hb : bx.lookup id = some ⟨bt, .r es.flatten mm⟩) (hb2 : bx.lookup id' = some ⟨bt', .r es'.flatten mm'⟩) (hk : ∀ e ∈ es, e.length = k) (hk2 : ∀ e ∈ es', e.length = k) (hk0 : 0 < k) (hoff : off = i * k) (hoff2 : off' = i' * k) (hcnt : Nat.min n' n = cnt) (hpos : 0 < cnt) (hle : (i' + n') * k ≤ es'.length * k + mm') (hin : i' + cnt ≤ es'.length) (hi : i ≤ es.length) (hm : (i + cnt) * k ≤ es.length * k + mm) (her : es.take i ++ ((es'.drop i').take cnt ++ es.drop (i + cnt)) = er) (hmr : mm - (i + cnt - es.length) * k = mr)
    (h : DR P c ops Q st0 (⟨some (d, aI cnt), ((id, ⟨bt, .r er.flatten mr⟩) :: []), [], [], [id, id'], [], []⟩ :: done) ⟨(d, aI cnt) :: fr, (id, ⟨bt, .r er.flatten mr⟩) :: bx, tk⟩ rest) : DR P c ops Q st0 done ⟨fr, bx, tk⟩ (⟨some d, .call { callee := .builtin .copy, args := #[x, y], argTypes := #[t, t'] }, ty, pos, aft, none⟩ :: rest) :=
  DR.cons (e := ⟨some (d, aI cnt), ((id, ⟨bt, .r er.flatten mr⟩) :: []), [], [], [id, id'], [], []⟩) (fun st' hag Q' hL => LW.out (s_copyRR (fr := st'.fr) (bx := st'.bx) (tk := st'.tk) hlt ((hag.ev x (by simp [Op.operands, Call.operands])).trans hx) ((hag.ev y (by simp [Op.operands, Call.operands])).trans hy) ((hag.bx id (by simp)).trans hb) ((hag.bx id' (by simp)).trans hb2) hk hk2 hk0 hoff hoff2 hcnt hpos hle hin hi hm her hmr (s_nil hL))) h

theorem d_copyRP {t t' e : TypeId} {x y : Operand} {k n id off cap mm mr i : Nat} {bt : TypeId} {es news er : List (List IV)} (hlt : Nat.ble (d + 1) c.nt = true) (hx : St.ev ⟨fr, bx, tk⟩ x = .bsl id off n cap) (hy : (St.ev ⟨fr, bx, tk⟩ y).sl? = some news) [hs : SliceTy P t e k] (hb : bx.lookup id = some ⟨bt, .r es.flatten mm⟩) (hk : ∀ e ∈ es, e.length = k) (hk2 : ∀ e ∈ news, e.length = k) (hk0 : 0 < k) (hoff : off = i * k) (hcnt : news.length ≤ n) (hne : news ≠ []) (hi : i ≤ es.length) (hm : (i + news.length) * k ≤ es.length * k + mm) (her : es.take i ++ (news ++ es.drop (i + news.length)) = er) (hmr : mm - (i + news.length - es.length) * k = mr)
    (h : DR P c ops Q st0 (⟨some (d, aI news.length), ((id, ⟨bt, .r er.flatten mr⟩) :: []), [], [], [id], [], []⟩ :: done) ⟨(d, aI news.length) :: fr, (id, ⟨bt, .r er.flatten mr⟩) :: bx, tk⟩ rest) : DR P c ops Q st0 done ⟨fr, bx, tk⟩ (⟨some d, .call { callee := .builtin .copy, args := #[x, y], argTypes := #[t, t'] }, ty, pos, aft, none⟩ :: rest) :=
  DR.cons (e := ⟨some (d, aI news.length), ((id, ⟨bt, .r er.flatten mr⟩) :: []), [], [], [id], [], []⟩) (fun st' hag Q' hL => LW.out (s_copyRP (fr := st'.fr) (bx := st'.bx) (tk := st'.tk) hlt ((hag.ev x (by simp [Op.operands, Call.operands])).trans hx) ((congrArg AV.sl? (hag.ev y (by simp [Op.operands, Call.operands]))).trans hy) ((hag.bx id (by simp)).trans hb) hk hk2 hk0 hoff hcnt hne hi hm her hmr (s_nil hL))) h

theorem d_roomRR {t t' e e' : TypeId} {x y : Operand} {k k2 bytes n id cap id' off' n' cap' mm mm' mr i' nr : Nat} {bt bt' : TypeId} {es es' er : List (List IV)} (hlt : Nat.ble (d + 1) c.nt = true) (hx : St.ev ⟨fr, bx, tk⟩ x = .bsl id 0 n cap) (hy : St.ev ⟨fr, bx, tk⟩ y = .bsl id' off' n' cap') [hr : RowTy P t e k bytes] [hs2 : SliceTy P t' e' k2] (hb : bx.lookup id = some ⟨bt, .r es.flatten mm⟩) (hb2 : bx.lookup id' = some ⟨bt', .r es'.flatten mm'⟩) (hbn : es.flatten ≠ [] ∨ 0 < mm) (hk : ∀ e ∈ es, e.length = k) (hk2 : ∀ e ∈ es', e.length = k) (hoff2 : off' = i' * k) (hin : i' + n' ≤ es'.length) (hc0 : 0 < cap) (hroom : n + n' ≤ cap) (hi : n ≤ es.length) (hm : (n + n') * k ≤ es.length * k + mm) (her : es.take n ++ ((es'.drop i').take n' ++ es.drop (n + n')) = er) (hmr : mm - (n + n' - es.length) * k = mr) (hnr : n + n' = nr)
    (h : DR P c ops Q st0 (⟨some (d, .bsl id 0 nr cap), ((id, ⟨bt, .r er.flatten mr⟩) :: []), [], [], [id, id'], [], []⟩ :: done) ⟨(d, .bsl id 0 nr cap) :: fr, (id, ⟨bt, .r er.flatten mr⟩) :: bx, tk⟩ rest) : DR P c ops Q st0 done ⟨fr, bx, tk⟩ (⟨some d, .call { callee := .builtin .append, args := #[x, y], argTypes := #[t, t'] }, ty, pos, aft, none⟩ :: rest) :=
  DR.cons (e := ⟨some (d, .bsl id 0 nr cap), ((id, ⟨bt, .r er.flatten mr⟩) :: []), [], [], [id, id'], [], []⟩) (fun st' hag Q' hL => LW.out (s_roomRR (fr := st'.fr) (bx := st'.bx) (tk := st'.tk) hlt ((hag.ev x (by simp [Op.operands, Call.operands])).trans hx) ((hag.ev y (by simp [Op.operands, Call.operands])).trans hy) ((hag.bx id (by simp)).trans hb) ((hag.bx id' (by simp)).trans hb2) hbn hk hk2 hoff2 hin hc0 hroom hi hm her hmr hnr (s_nil hL))) h

theorem d_roomRP {t t' e e' : TypeId} {x y : Operand} {k k2 bytes n id cap mm mr nr : Nat} {bt : TypeId} {es news er : List (List IV)} (hlt : Nat.ble (d + 1) c.nt = true) (hx : St.ev ⟨fr, bx, tk⟩ x = .bsl id 0 n cap) (hy : (St.ev ⟨fr, bx, tk⟩ y).sl? = some news) [hr : RowTy P t e k bytes] [hs2 : SliceTy P t' e' k2] (hb : bx.lookup id = some ⟨bt, .r es.flatten mm⟩) (hbn : es.flatten ≠ [] ∨ 0 < mm) (hk : ∀ e ∈ es, e.length = k) (hk2 : ∀ e ∈ news, e.length = k) (hc0 : 0 < cap) (hroom : n + news.length ≤ cap) (hi : n ≤ es.length) (hm : (n + news.length) * k ≤ es.length * k + mm) (her : es.take n ++ (news ++ es.drop (n + news.length)) = er) (hmr : mm - (n + news.length - es.length) * k = mr) (hnr : n + news.length = nr)
    (h : DR P c ops Q st0 (⟨some (d, .bsl id 0 nr cap), ((id, ⟨bt, .r er.flatten mr⟩) :: []), [], [], [id], [], []⟩ :: done) ⟨(d, .bsl id 0 nr cap) :: fr, (id, ⟨bt, .r er.flatten mr⟩) :: bx, tk⟩ rest) : DR P c ops Q st0 done ⟨fr, bx, tk⟩ (⟨some d, .call { callee := .builtin .append, args := #[x, y], argTypes := #[t, t'] }, ty, pos, aft, none⟩ :: rest) :=
  DR.cons (e := ⟨some (d, .bsl id 0 nr cap), ((id, ⟨bt, .r er.flatten mr⟩) :: []), [], [], [id], [], []⟩) (fun st' hag Q' hL => LW.out (s_roomRP (fr := st'.fr) (bx := st'.bx) (tk := st'.tk) hlt ((hag.ev x (by simp [Op.operands, Call.operands])).trans hx) ((congrArg AV.sl? (hag.ev y (by simp [Op.operands, Call.operands]))).trans hy) ((hag.bx id (by simp)).trans hb) hbn hk hk2 hc0 hroom hi hm her hmr hnr (s_nil hL))) h

theorem d_growRP (N : Nat) {t t' e e' : TypeId} {x y : Operand} {k k2 bytes n id cap mm nr : Nat} {bt : TypeId} {es news er : List (List IV)} (hlt : Nat.ble (d + 1) c.nt = true) (hx : St.ev ⟨fr, bx, tk⟩ x = .bsl id 0 n cap) (hy : (St.ev ⟨fr, bx, tk⟩ y).sl? = some news) [hr : RowTy P t e k bytes] [hs2 : SliceTy P t' e' k2] (hb : bx.lookup id = some ⟨bt, .r es.flatten mm⟩) (hk : ∀ e ∈ es, e.length = k) (hk2 : ∀ e ∈ news, e.length = k) (hi : n ≤ es.length) (hcap : cap < n + news.length) (hne : news ≠ []) (hm : n + news.length ≤ maxLen) (hby : (n + news.length) * bytes ≤ 140737488355328) (hf : St.fresh N ⟨fr, bx, tk⟩ = true) (her : es.take n ++ news = er) (hnr : n + news.length = nr)
    (h : DR P c ops Q st0 (⟨some (d, .bsh N 0 nr k), ((N, ⟨e, .r er.flatten 0⟩) :: []), [], [], [id], [], [N]⟩ :: done) ⟨(d, .bsh N 0 nr k) :: fr, (N, ⟨e, .r er.flatten 0⟩) :: bx, tk⟩ rest) : DR P c ops Q st0 done ⟨fr, bx, tk⟩ (⟨some d, .call { callee := .builtin .append, args := #[x, y], argTypes := #[t, t'] }, ty, pos, aft, none⟩ :: rest) :=
  DR.cons (e := ⟨some (d, .bsh N 0 nr k), ((N, ⟨e, .r er.flatten 0⟩) :: []), [], [], [id], [], [N]⟩) (fun st' hag Q' hL => LW.out (s_growRP (fr := st'.fr) (bx := st'.bx) (tk := st'.tk) N hlt ((hag.ev x (by simp [Op.operands, Call.operands])).trans hx) ((congrArg AV.sl? (hag.ev y (by simp [Op.operands, Call.operands]))).trans hy) ((hag.bx id (by simp)).trans hb) hk hk2 hi hcap hne hm hby (hag.fs N (by simp)) her hnr (s_nil hL))) h

theorem d_growRR (N : Nat) {t t' e e' : TypeId} {x y : Operand} {k k2 bytes n id cap mm nr id' off' n' cap' mm' i' : Nat} {bt bt' : TypeId} {es es' er : List (List IV)} (hlt : Nat.ble (d + 1) c.nt = true) (hx : St.ev ⟨fr, bx, tk⟩ x = .bsl id 0 n cap) (hy : St.ev ⟨fr, bx, tk⟩ y = .bsl id' off' n' cap') [hr : RowTy P t e k bytes] [hs2 : SliceTy P t' e' k2] (hb : bx.lookup id = some ⟨bt, .r es.flatten mm⟩) (hb2 : bx.lookup id' = some ⟨bt', .r es'.flatten mm'⟩) (hk : ∀ e ∈ es, e.length = k) (hk2 : ∀ e ∈ es', e.length = k) (hoff2 : off' = i' * k) (hn0 : 0 < n') (hin : i' + n' ≤ es'.length) (hi : n ≤ es.length) (hcap : cap < n + n') (hm : n + n' ≤ maxLen) (hby : (n + n') * bytes ≤ 140737488355328) (hf : St.fresh N ⟨fr, bx, tk⟩ = true) (her : es.take n ++ (es'.drop i').take n' = er) (hnr : n + n' = nr)
    (h : DR P c ops Q st0 (⟨some (d, .bsh N 0 nr k), ((N, ⟨e, .r er.flatten 0⟩) :: []), [], [], [id, id'], [], [N]⟩ :: done) ⟨(d, .bsh N 0 nr k) :: fr, (N, ⟨e, .r er.flatten 0⟩) :: bx, tk⟩ rest) : DR P c ops Q st0 done ⟨fr, bx, tk⟩ (⟨some d, .call { callee := .builtin .append, args := #[x, y], argTypes := #[t, t'] }, ty, pos, aft, none⟩ :: rest) :=
  DR.cons (e := ⟨some (d, .bsh N 0 nr k), ((N, ⟨e, .r er.flatten 0⟩) :: []), [], [], [id, id'], [], [N]⟩) (fun st' hag Q' hL => LW.out (s_growRR (fr := st'.fr) (bx := st'.bx) (tk := st'.tk) N hlt ((hag.ev x (by simp [Op.operands, Call.operands])).trans hx) ((hag.ev y (by simp [Op.operands, Call.operands])).trans hy) ((hag.bx id (by simp)).trans hb) ((hag.bx id' (by simp)).trans hb2) hk hk2 hoff2 hn0 hin hi hcap hm hby (hag.fs N (by simp)) her hnr (s_nil hL))) h

theorem d_growRZ (N : Nat) {t t' e : TypeId} {kd kd' : IntKind} {x y : Operand} {m k bytes n id cap mm nr mr : Nat} {j : Int} {bt : TypeId} {es er : List (List IV)} (hlt : Nat.ble (d + 1) c.nt = true) (hx : St.ev ⟨fr, bx, tk⟩ x = .bsl id 0 n cap) (hy : St.ev ⟨fr, bx, tk⟩ y = .iv (.im (.int kd' j))) (hj : j = (m : Int)) [hr : RowTy P t e k bytes] [hd2 : IntTy P t' kd] (hb : bx.lookup id = some ⟨bt, .r es.flatten mm⟩) (hk : ∀ e ∈ es, e.length = k) (hi : n ≤ es.length) (hcap : cap < n + m) (hpos : 0 < m) (hm : n + m ≤ maxLen) (hby : (n + m) * bytes ≤ 140737488355328) (hf : St.fresh N ⟨fr, bx, tk⟩ = true) (her : es.take n = er) (hnr : n + m = nr) (hmr : m * k = mr)
    (h : DR P c ops Q st0 (⟨some (d, .bsh N 0 nr k), ((N, ⟨e, .r er.flatten mr⟩) :: []), [], [], [id], [], [N]⟩ :: done) ⟨(d, .bsh N 0 nr k) :: fr, (N, ⟨e, .r er.flatten mr⟩) :: bx, tk⟩ rest) : DR P c ops Q st0 done ⟨fr, bx, tk⟩ (⟨some d, .call { callee := .builtin .append, args := #[x, y], argTypes := #[t, t'] }, ty, pos, aft, none⟩ :: rest) :=
  DR.cons (e := ⟨some (d, .bsh N 0 nr k), ((N, ⟨e, .r er.flatten mr⟩) :: []), [], [], [id], [], [N]⟩) (fun st' hag Q' hL => LW.out (s_growRZ (fr := st'.fr) (bx := st'.bx) (tk := st'.tk) N hlt ((hag.ev x (by simp [Op.operands, Call.operands])).trans hx) ((hag.ev y (by simp [Op.operands, Call.operands])).trans hy) hj ((hag.bx id (by simp)).trans hb) hk hi hcap hpos hm hby (hag.fs N (by simp)) her hnr hmr (s_nil hL))) h

theorem d_cloneR (N : Nat) {t t' e e' : TypeId} {x y : Operand} {k k2 bytes id off : Nat} {news : List (List IV)} (hlt : Nat.ble (d + 1) c.nt = true) (hx : St.ev ⟨fr, bx, tk⟩ x = .bsl id off 0 0) (hy : (St.ev ⟨fr, bx, tk⟩ y).sl? = some news) [hr : RowTy P t e k bytes] [hs2 : SliceTy P t' e' k2] (hk2 : ∀ e ∈ news, e.length = k) (hne : news ≠ []) (hm : news.length ≤ maxLen) (hby : news.length * bytes ≤ 140737488355328) (hf : St.fresh N ⟨fr, bx, tk⟩ = true)
    (h : DR P c ops Q st0 (⟨some (d, .bsh N 0 news.length k), ((N, ⟨e, .r news.flatten 0⟩) :: []), [], [], [], [], [N]⟩ :: done) ⟨(d, .bsh N 0 news.length k) :: fr, (N, ⟨e, .r news.flatten 0⟩) :: bx, tk⟩ rest) : DR P c ops Q st0 done ⟨fr, bx, tk⟩ (⟨some d, .call { callee := .builtin .append, args := #[x, y], argTypes := #[t, t'] }, ty, pos, aft, none⟩ :: rest) :=
  DR.cons (e := ⟨some (d, .bsh N 0 news.length k), ((N, ⟨e, .r news.flatten 0⟩) :: []), [], [], [], [], [N]⟩) (fun st' hag Q' hL => LW.out (s_cloneR (fr := st'.fr) (bx := st'.bx) (tk := st'.tk) N hlt ((hag.ev x (by simp [Op.operands, Call.operands])).trans hx) ((congrArg AV.sl? (hag.ev y (by simp [Op.operands, Call.operands]))).trans hy) hk2 hne hm hby (hag.fs N (by simp)) (s_nil hL))) h

theorem d_capNil {x : Operand} {t e : TypeId} {k : Nat} (hlt : Nat.ble (d + 1) c.nt = true) (hx : St.ev ⟨fr, bx, tk⟩ x = .nils) [hs : SliceTy P t e k]
    (h : DR P c ops Q st0 (⟨some (d, aI 0), [], [], [], [], [], []⟩ :: done) ⟨(d, aI 0) :: fr, bx, tk⟩ rest) : DR P c ops Q st0 done ⟨fr, bx, tk⟩ (⟨some d, .call { callee := .builtin .cap, args := #[x], argTypes := #[t] }, ty, pos, aft, none⟩ :: rest) :=
  DR.cons (e := ⟨some (d, aI 0), [], [], [], [], [], []⟩) (fun st' hag Q' hL => LW.out (s_capNil (fr := st'.fr) (bx := st'.bx) (tk := st'.tk) hlt ((hag.ev x (by simp [Op.operands, Call.operands])).trans hx) (s_nil hL))) h

theorem d_slNil {x y : Operand} {t e : TypeId} {k : Nat} {kd : IntKind} {j : Int} (hlt : Nat.ble (d + 1) c.nt = true) (hx : St.ev ⟨fr, bx, tk⟩ x = .nils) (hy : St.ev ⟨fr, bx, tk⟩ y = .iv (.im (.int kd j))) [hs : SliceTy P t e k] (h0 : j = 0)
    (h : DR P c ops Q st0 (⟨some (d, .nils), [], [], [], [], [], []⟩ :: done) ⟨(d, .nils) :: fr, bx, tk⟩ rest) : DR P c ops Q st0 done ⟨fr, bx, tk⟩ (⟨some d, .slice t x none (some y) none, ty, pos, aft, none⟩ :: rest) :=
  DR.cons (e := ⟨some (d, .nils), [], [], [], [], [], []⟩) (fun st' hag Q' hL => LW.out (s_slNil (fr := st'.fr) (bx := st'.bx) (tk := st'.tk) hlt ((hag.ev x (by simp [Op.operands, Call.operands])).trans hx) ((hag.ev y (by simp [Op.operands, Call.operands])).trans hy) h0 (s_nil hL))) h

theorem d_slBshH {x y : Operand} {t e : TypeId} {k id n n' : Nat} {kd : IntKind} {j : Int} (hlt : Nat.ble (d + 1) c.nt = true) (hx : St.ev ⟨fr, bx, tk⟩ x = .bsh id 0 n k) (hy : St.ev ⟨fr, bx, tk⟩ y = .iv (.im (.int kd j))) [hs : SliceTy P t e k] (h0 : 0 ≤ j) (h1 : j ≤ n) (e2 : j.toNat = n')
    (h : DR P c ops Q st0 (⟨some (d, .bsh id 0 n' k), [], [], [], [], [], []⟩ :: done) ⟨(d, .bsh id 0 n' k) :: fr, bx, tk⟩ rest) : DR P c ops Q st0 done ⟨fr, bx, tk⟩ (⟨some d, .slice t x none (some y) none, ty, pos, aft, none⟩ :: rest) :=
  DR.cons (e := ⟨some (d, .bsh id 0 n' k), [], [], [], [], [], []⟩) (fun st' hag Q' hL => LW.out (s_slBshH (fr := st'.fr) (bx := st'.bx) (tk := st'.tk) hlt ((hag.ev x (by simp [Op.operands, Call.operands])).trans hx) ((hag.ev y (by simp [Op.operands, Call.operands])).trans hy) h0 h1 e2 (s_nil hL))) h

theorem d_growNZ (N : Nat) {t t' e : TypeId} {kd kd' : IntKind} {x y : Operand} {m k bytes mr : Nat} {j : Int} (hlt : Nat.ble (d + 1) c.nt = true) (hx : St.ev ⟨fr, bx, tk⟩ x = .nils) (hy : St.ev ⟨fr, bx, tk⟩ y = .iv (.im (.int kd' j))) (hj : j = (m : Int)) [hr : RowTy P t e k bytes] [hd2 : IntTy P t' kd] (hpos : 0 < m) (hm : m ≤ maxLen) (hby : m * bytes ≤ 140737488355328) (hf : St.fresh N ⟨fr, bx, tk⟩ = true) (hmr : m * k = mr)
    (h : DR P c ops Q st0 (⟨some (d, .bsh N 0 m k), ((N, ⟨e, .r [] mr⟩) :: []), [], [], [], [], [N]⟩ :: done) ⟨(d, .bsh N 0 m k) :: fr, (N, ⟨e, .r [] mr⟩) :: bx, tk⟩ rest) : DR P c ops Q st0 done ⟨fr, bx, tk⟩ (⟨some d, .call { callee := .builtin .append, args := #[x, y], argTypes := #[t, t'] }, ty, pos, aft, none⟩ :: rest) :=
  DR.cons (e := ⟨some (d, .bsh N 0 m k), ((N, ⟨e, .r [] mr⟩) :: []), [], [], [], [], [N]⟩) (fun st' hag Q' hL => LW.out (s_growNZ (fr := st'.fr) (bx := st'.bx) (tk := st'.tk) N hlt ((hag.ev x (by simp [Op.operands, Call.operands])).trans hx) ((hag.ev y (by simp [Op.operands, Call.operands])).trans hy) hj hpos hm hby (hag.fs N (by simp)) hmr (s_nil hL))) h

theorem d_appendH (N : Nat) {t t' e e' : TypeId} {x y : Operand} {k k2 bytes n id mm nr : Nat} {es news er : List (List IV)} (hlt : Nat.ble (d + 1) c.nt = true) (hx : St.ev ⟨fr, bx, tk⟩ x = .bsh id 0 n k) (hy : (St.ev ⟨fr, bx, tk⟩ y).sl? = some news) [hr : RowTy P t e k bytes] [hs2 : SliceTy P t' e' k2] (hb : bx.lookup id = some ⟨e, .r es.flatten mm⟩) (hbn : es.flatten ≠ [] ∨ 0 < mm) (hk : ∀ e ∈ es, e.length = k) (hk2 : ∀ e ∈ news, e.length = k) (hi : n ≤ es.length) (hne : news ≠ []) (hm : n + news.length ≤ maxLen) (hby : (n + news.length) * bytes ≤ 140737488355328) (hf : St.fresh N ⟨fr, bx, tk⟩ = true) (her : es.take n ++ news = er) (hnr : n + news.length = nr)
    (h : DR P c ops Q st0 (⟨some (d, .bsh N 0 nr k), ((N, ⟨e, .r er.flatten 0⟩) :: (id, ⟨e, .l []⟩) :: []), [], [], [id], [], [N]⟩ :: done) ⟨(d, .bsh N 0 nr k) :: fr, (N, ⟨e, .r er.flatten 0⟩) :: (id, ⟨e, .l []⟩) :: bx, tk⟩ rest) : DR P c ops Q st0 done ⟨fr, bx, tk⟩ (⟨some d, .call { callee := .builtin .append, args := #[x, y], argTypes := #[t, t'] }, ty, pos, aft, none⟩ :: rest) :=
  DR.cons (e := ⟨some (d, .bsh N 0 nr k), ((N, ⟨e, .r er.flatten 0⟩) :: (id, ⟨e, .l []⟩) :: []), [], [], [id], [], [N]⟩) (fun st' hag Q' hL => LW.out (s_appendH (fr := st'.fr) (bx := st'.bx) (tk := st'.tk) N hlt ((hag.ev x (by simp [Op.operands, Call.operands])).trans hx) ((congrArg AV.sl? (hag.ev y (by simp [Op.operands, Call.operands]))).trans hy) ((hag.bx id (by simp)).trans hb) hbn hk hk2 hi hne hm hby (hag.fs N (by simp)) her hnr (s_nil hL))) h

theorem d_callJ (N : Nat) {f : FuncId} {args : Array Operand} {ats : Array TypeId} {as : List AV} {q a k n n' : Nat} {t1 t2 : TypeId} {xs ys : List IV} {res : AV} (hlt : Nat.ble (d + 1) c.nt = true) [hok : CallTy P f] (hc : CallA P f (.ptr 1000 0 :: as) [(1000, ⟨t1, .l [.bsh 1001 0 n k]⟩), (1001, ⟨t2, .r xs 0⟩)] [(1000, ⟨t1, .l [.bsh 1002 0 n' k]⟩), (1002, ⟨t2, .r ys 0⟩), (1001, ⟨t2, .l []⟩)] [] res) (ha : AV.pub.pubs (args.toList.map (St.ev ⟨fr, bx, tk⟩)) = .ptr q 0 :: as) (hb : bx.lookup q = some ⟨t1, .l [.bsh a 0 n k]⟩) (hb2 : bx.lookup a = some ⟨t2, .r xs 0⟩) (hxs : xs ≠ []) (hqa : (q == a) = false) (hm : AV.mentsIn [] as = true) (hr : AV.mentIn [] res = true) (hf : St.fresh N ⟨fr, bx, tk⟩ = true)
    (h : DR P c ops Q st0 (⟨some (d, res), ((q, ⟨t1, .l [.bsh N 0 n' k]⟩) :: (N, ⟨t2, .r ys 0⟩) :: (a, ⟨t2, .l []⟩) :: []), [], [], [q, a], [], [N]⟩ :: done) ⟨(d, res) :: fr, (q, ⟨t1, .l [.bsh N 0 n' k]⟩) :: (N, ⟨t2, .r ys 0⟩) :: (a, ⟨t2, .l []⟩) :: bx, tk⟩ rest) : DR P c ops Q st0 done ⟨fr, bx, tk⟩ (⟨some d, .call { callee := .value (.func f), args := args, argTypes := ats }, ty, pos, aft, none⟩ :: rest) :=
  DR.cons (e := ⟨some (d, res), ((q, ⟨t1, .l [.bsh N 0 n' k]⟩) :: (N, ⟨t2, .r ys 0⟩) :: (a, ⟨t2, .l []⟩) :: []), [], [], [q, a], [], [N]⟩) (fun st' hag Q' hL => LW.out (s_callJ (fr := st'.fr) (bx := st'.bx) (tk := st'.tk) N hlt hc ((by rw [agL hag (fun x hx => by simp [Op.operands, Call.operands, hx])]; exact ha)) ((hag.bx q (by simp)).trans hb) ((hag.bx a (by simp)).trans hb2) hxs hqa hm hr (hag.fs N (by simp)) (s_nil hL))) h

theorem d_call01N {f : FuncId} {args : Array Operand} {ats : Array TypeId} {as : List AV} {k n m : Nat} {bt : TypeId} {xs : List IV} (hlt : Nat.ble (d + 1) c.nt = true) [hok : CallTy P f] (hc : CallA P f as [] [(1000, ⟨bt, .r xs m⟩)] [] (.bsh 1000 0 n k)) (ha : args.toList.map (St.ev ⟨fr, bx, tk⟩) = as) (hm : AV.mentsIn [] as = true) (hf : St.fresh d ⟨fr, bx, tk⟩ = true)
    (h : DR P c ops Q st0 (⟨some (d, .bsh d 0 n k), ((d, ⟨bt, .r xs m⟩) :: []), [], [], [], [], [d]⟩ :: done) ⟨(d, .bsh d 0 n k) :: fr, (d, ⟨bt, .r xs m⟩) :: bx, tk⟩ rest) : DR P c ops Q st0 done ⟨fr, bx, tk⟩ (⟨some d, .call { callee := .value (.func f), args := args, argTypes := ats }, ty, pos, aft, none⟩ :: rest) :=
  DR.cons (e := ⟨some (d, .bsh d 0 n k), ((d, ⟨bt, .r xs m⟩) :: []), [], [], [], [], [d]⟩) (fun st' hag Q' hL => LW.out (s_call01N (fr := st'.fr) (bx := st'.bx) (tk := st'.tk) hlt hc ((by rw [agL hag (fun x hx => by simp [Op.operands, Call.operands, hx])]; exact ha)) hm (hag.fs d (by simp)) (s_nil hL))) h

theorem d_mkEmpty {t e : TypeId} {k : Nat} {zs : List Value} (hlt : Nat.ble (d + 1) c.nt = true) [hs : SliceTy P t e k] [hz : ZeroTy P e zs] (h1 : zs.all (·.oneCell') = true) (hzl : zs.length = k) (hnk : Nat.ble 1 k = true) (hfr : St.fresh d ⟨fr, bx, tk⟩ = true)
    (h : DR P c ops Q st0 (⟨some (d, .bsl d 0 0 0), ((d, ⟨e, .l []⟩) :: []), [], [], [], [], [d]⟩ :: done) ⟨(d, .bsl d 0 0 0) :: fr, (d, ⟨e, .l []⟩) :: bx, tk⟩ rest) : DR P c ops Q st0 done ⟨fr, bx, tk⟩ (⟨some d, .buildSlice t 0 #[], ty, pos, aft, none⟩ :: rest) :=
  DR.cons (e := ⟨some (d, .bsl d 0 0 0), ((d, ⟨e, .l []⟩) :: []), [], [], [], [], [d]⟩) (fun st' hag Q' hL => LW.out (s_mkEmpty (fr := st'.fr) (bx := st'.bx) (tk := st'.tk) hlt h1 hzl hnk (hag.fs d (by simp)) (s_nil hL))) h

theorem d_buildR {t e : TypeId} {n k : Nat} {parts : Array (Nat × Operand)} {zs : List Value} {cs : List AV} {es : List (List IV)} (hlt : Nat.ble (d + 1) c.nt = true) [hs : SliceTy P t e k] [hz : ZeroTy P e zs] (h1 : zs.all (·.oneCell') = true) (hzl : zs.length = k) (hn : Nat.ble (n * k) 16777216 = true) (hnk : Nat.ble 1 k = true) (hf : fillA (fun i => some (i * k, k)) ((List.range (n * k)).map fun i => constCell (zs.getD (i % k) undef)) (parts.toList.map fun x => (x.1, St.ev ⟨fr, bx, tk⟩ x.2)) = some cs) (hcs : cs = es.flatten.map AV.iv) (hcl : es.flatten.length = n * k) (hfr : St.fresh d ⟨fr, bx, tk⟩ = true)
    (h : DR P c ops Q st0 (⟨some (d, .bsl d 0 n n), ((d, ⟨e, .r es.flatten 0⟩) :: []), [], [], [], [], [d]⟩ :: done) ⟨(d, .bsl d 0 n n) :: fr, (d, ⟨e, .r es.flatten 0⟩) :: bx, tk⟩ rest) : DR P c ops Q st0 done ⟨fr, bx, tk⟩ (⟨some d, .buildSlice t n parts, ty, pos, aft, none⟩ :: rest) :=
  DR.cons (e := ⟨some (d, .bsl d 0 n n), ((d, ⟨e, .r es.flatten 0⟩) :: []), [], [], [], [], [d]⟩) (fun st' hag Q' hL => LW.out (s_buildR (fr := st'.fr) (bx := st'.bx) (tk := st'.tk) hlt h1 hzl hn hnk ((by rw [agP hag (fun x hx => by simp only [Op.operands]; exact List.mem_toArray.2 (List.mem_map.2 ⟨x, by simpa using hx, rfl⟩))]; exact hf)) hcs hcl (hag.fs d (by simp)) (s_nil hL))) h

theorem d_storeR {t : TypeId} {x y : Operand} {id off k mm i : Nat} {bt : TypeId} {es er : List (List IV)} {e : List IV} {v : AV} {agg : Bool} (hx : St.ev ⟨fr, bx, tk⟩ x = .ptr id off) (hy : St.ev ⟨fr, bx, tk⟩ y = v) [ht : VarTy P t agg k] (hb : bx.lookup id = some ⟨bt, .r es.flatten mm⟩) (hv : v.lays = true) (hc : v.cells = e.map AV.iv) (he : e.length = k) (hk : ∀ e ∈ es, e.length = k) (ho : off = i * k) (hi : i < es.length) (her : es.set i e = er)
    (h : DR P c ops Q st0 (⟨none, ((id, ⟨bt, .r er.flatten mm⟩) :: []), [], [], [id], [], []⟩ :: done) ⟨fr, (id, ⟨bt, .r er.flatten mm⟩) :: bx, tk⟩ rest) : DR P c ops Q st0 done ⟨fr, bx, tk⟩ (⟨none, .store t x y, ty, pos, aft, none⟩ :: rest) :=
  DR.cons (e := ⟨none, ((id, ⟨bt, .r er.flatten mm⟩) :: []), [], [], [id], [], []⟩) (fun st' hag Q' hL => LW.out (s_storeR (fr := st'.fr) (bx := st'.bx) (tk := st'.tk) ((hag.ev x (by simp [Op.operands, Call.operands])).trans hx) ((hag.ev y (by simp [Op.operands, Call.operands])).trans hy) ((hag.bx id (by simp)).trans hb) hv hc he hk ho hi her (s_nil hL))) h

theorem d_clearR {t e : TypeId} {x : Operand} {k bytes n id off cap mm mr j : Nat} {bt : TypeId} {es er : List (List IV)} (hx : St.ev ⟨fr, bx, tk⟩ x = .bsl id off n cap) [hr : RowTy P t e k bytes] (hb : bx.lookup id = some ⟨bt, .r es.flatten mm⟩) (hk : ∀ e ∈ es, e.length = k) (hoff : off = j * k) (hj : j ≤ es.length) (hn0 : 0 < n) (hle : (j + n) * k ≤ es.length * k + mm) (her : es.take j = er) (hmr : es.length * k + mm - j * k = mr)
    (h : DR P c ops Q st0 (⟨none, ((id, ⟨bt, .r er.flatten mr⟩) :: []), [], [], [id], [], []⟩ :: done) ⟨fr, (id, ⟨bt, .r er.flatten mr⟩) :: bx, tk⟩ rest) : DR P c ops Q st0 done ⟨fr, bx, tk⟩ (⟨none, .call { callee := .builtin .clear, args := #[x], argTypes := #[t] }, ty, pos, aft, none⟩ :: rest) :=
  DR.cons (e := ⟨none, ((id, ⟨bt, .r er.flatten mr⟩) :: []), [], [], [id], [], []⟩) (fun st' hag Q' hL => LW.out (s_clearR (fr := st'.fr) (bx := st'.bx) (tk := st'.tk) ((hag.ev x (by simp [Op.operands, Call.operands])).trans hx) ((hag.bx id (by simp)).trans hb) hk hoff hj hn0 hle her hmr (s_nil hL))) h

theorem d_call01 {f : FuncId} {args : Array Operand} {ats : Array TypeId} {as : List AV} {k n : Nat} {bt : TypeId} {xs : List IV} (hlt : Nat.ble (d + 1) c.nt = true) [hok : CallTy P f] (hc : CallA P f as [] [(1000, ⟨bt, .r xs 0⟩)] [] (.bsh 1000 0 n k)) (ha : AV.pub.pubs (args.toList.map (St.ev ⟨fr, bx, tk⟩)) = as) (hm : AV.mentsIn [] as = true) (hf : St.fresh d ⟨fr, bx, tk⟩ = true)
    (h : DR P c ops Q st0 (⟨some (d, .bsh d 0 n k), ((d, ⟨bt, .r xs 0⟩) :: []), [], [], [], [], [d]⟩ :: done) ⟨(d, .bsh d 0 n k) :: fr, (d, ⟨bt, .r xs 0⟩) :: bx, tk⟩ rest) : DR P c ops Q st0 done ⟨fr, bx, tk⟩ (⟨some d, .call { callee := .value (.func f), args := args, argTypes := ats }, ty, pos, aft, none⟩ :: rest) :=
  DR.cons (e := ⟨some (d, .bsh d 0 n k), ((d, ⟨bt, .r xs 0⟩) :: []), [], [], [], [], [d]⟩) (fun st' hag Q' hL => LW.out (s_call01 (fr := st'.fr) (bx := st'.bx) (tk := st'.tk) hlt hc ((by rw [agL hag (fun x hx => by simp [Op.operands, Call.operands, hx])]; exact ha)) hm (hag.fs d (by simp)) (s_nil hL))) h

theorem d_call02 {f : FuncId} {args : Array Operand} {ats : Array TypeId} {as : List AV} {k n k' n' : Nat} {bt bt' : TypeId} {xs xs' : List IV} (hlt : Nat.ble (d + 1) c.nt = true) [hok : CallTy P f] (hc : CallA P f as [] [(1000, ⟨bt, .r xs 0⟩), (1001, ⟨bt', .r xs' 0⟩)] [] (.agg [.bsh 1000 0 n k, .bsh 1001 0 n' k'])) (ha : AV.pub.pubs (args.toList.map (St.ev ⟨fr, bx, tk⟩)) = as) (hm : AV.mentsIn [] as = true) (hf : St.fresh d ⟨fr, bx, tk⟩ = true) (hf2 : St.fresh (d + 2000) ⟨fr, bx, tk⟩ = true)
    (h : DR P c ops Q st0 (⟨some (d, .agg [.bsh d 0 n k, .bsh (d + 2000) 0 n' k']), ((d, ⟨bt, .r xs 0⟩) :: (d + 2000, ⟨bt', .r xs' 0⟩) :: []), [], [], [], [], [d, (d + 2000)]⟩ :: done) ⟨(d, .agg [.bsh d 0 n k, .bsh (d + 2000) 0 n' k']) :: fr, (d, ⟨bt, .r xs 0⟩) :: (d + 2000, ⟨bt', .r xs' 0⟩) :: bx, tk⟩ rest) : DR P c ops Q st0 done ⟨fr, bx, tk⟩ (⟨some d, .call { callee := .value (.func f), args := args, argTypes := ats }, ty, pos, aft, none⟩ :: rest) :=
  DR.cons (e := ⟨some (d, .agg [.bsh d 0 n k, .bsh (d + 2000) 0 n' k']), ((d, ⟨bt, .r xs 0⟩) :: (d + 2000, ⟨bt', .r xs' 0⟩) :: []), [], [], [], [], [d, (d + 2000)]⟩) (fun st' hag Q' hL => LW.out (s_call02 (fr := st'.fr) (bx := st'.bx) (tk := st'.tk) hlt hc ((by rw [agL hag (fun x hx => by simp [Op.operands, Call.operands, hx])]; exact ha)) hm (hag.fs d (by simp)) (hag.fs (d + 2000) (by simp)) (s_nil hL))) h

theorem d_call11 {f : FuncId} {args : Array Operand} {ats : Array TypeId} {as : List AV} {a k n n' : Nat} {bt : TypeId} {xs ys : List IV} (hlt : Nat.ble (d + 1) c.nt = true) [hok : CallTy P f] (hc : CallA P f (.bsh 1000 0 n k :: as) [(1000, ⟨bt, .r xs 0⟩)] [(1001, ⟨bt, .r ys 0⟩), (1000, ⟨bt, .l []⟩)] [] (.bsh 1001 0 n' k)) (ha : AV.pub.pubs (args.toList.map (St.ev ⟨fr, bx, tk⟩)) = .bsh a 0 n k :: as) (hb : bx.lookup a = some ⟨bt, .r xs 0⟩) (hxs : xs ≠ []) (hm : AV.mentsIn [] as = true) (hf : St.fresh d ⟨fr, bx, tk⟩ = true)
    (h : DR P c ops Q st0 (⟨some (d, .bsh d 0 n' k), ((d, ⟨bt, .r ys 0⟩) :: (a, ⟨bt, .l []⟩) :: []), [], [], [a], [], [d]⟩ :: done) ⟨(d, .bsh d 0 n' k) :: fr, (d, ⟨bt, .r ys 0⟩) :: (a, ⟨bt, .l []⟩) :: bx, tk⟩ rest) : DR P c ops Q st0 done ⟨fr, bx, tk⟩ (⟨some d, .call { callee := .value (.func f), args := args, argTypes := ats }, ty, pos, aft, none⟩ :: rest) :=
  DR.cons (e := ⟨some (d, .bsh d 0 n' k), ((d, ⟨bt, .r ys 0⟩) :: (a, ⟨bt, .l []⟩) :: []), [], [], [a], [], [d]⟩) (fun st' hag Q' hL => LW.out (s_call11 (fr := st'.fr) (bx := st'.bx) (tk := st'.tk) hlt hc ((by rw [agL hag (fun x hx => by simp [Op.operands, Call.operands, hx])]; exact ha)) ((hag.bx a (by simp)).trans hb) hxs hm (hag.fs d (by simp)) (s_nil hL))) h

theorem d_call10 {f : FuncId} {args : Array Operand} {ats : Array TypeId} {as : List AV} {a k n : Nat} {bt : TypeId} {xs : List IV} {res : IV} (hlt : Nat.ble (d + 1) c.nt = true) [hok : CallTy P f] (hc : CallA P f (.bsh 1000 0 n k :: as) [(1000, ⟨bt, .r xs 0⟩)] [(1000, ⟨bt, .l []⟩)] [] (.iv res)) (ha : AV.pub.pubs (args.toList.map (St.ev ⟨fr, bx, tk⟩)) = .bsh a 0 n k :: as) (hb : bx.lookup a = some ⟨bt, .r xs 0⟩) (hxs : xs ≠ []) (hm : AV.mentsIn [] as = true)
    (h : DR P c ops Q st0 (⟨some (d, .iv res), ((a, ⟨bt, .l []⟩) :: []), [], [], [a], [], []⟩ :: done) ⟨(d, .iv res) :: fr, (a, ⟨bt, .l []⟩) :: bx, tk⟩ rest) : DR P c ops Q st0 done ⟨fr, bx, tk⟩ (⟨some d, .call { callee := .value (.func f), args := args, argTypes := ats }, ty, pos, aft, none⟩ :: rest) :=
  DR.cons (e := ⟨some (d, .iv res), ((a, ⟨bt, .l []⟩) :: []), [], [], [a], [], []⟩) (fun st' hag Q' hL => LW.out (s_call10 (fr := st'.fr) (bx := st'.bx) (tk := st'.tk) hlt hc ((by rw [agL hag (fun x hx => by simp [Op.operands, Call.operands, hx])]; exact ha)) ((hag.bx a (by simp)).trans hb) hxs hm (s_nil hL))) h

theorem d_call21 {f : FuncId} {args : Array Operand} {ats : Array TypeId} {i : AV} {a v k n m n' : Nat} {bt bt' : TypeId} {xs vs ys : List IV} (hlt : Nat.ble (d + 1) c.nt = true) [hok : CallTy P f] (hc : CallA P f [.bsh 1000 0 n k, i, .bsl 1001 0 m m] [(1000, ⟨bt, .r xs 0⟩), (1001, ⟨bt', .r vs 0⟩)] [(1002, ⟨bt, .r ys 0⟩), (1000, ⟨bt, .l []⟩), (1001, ⟨bt', .l []⟩)] [] (.bsh 1002 0 n' k)) (ha : AV.pub.pubs (args.toList.map (St.ev ⟨fr, bx, tk⟩)) = [.bsh a 0 n k, i, .bsl v 0 m m]) (hb : bx.lookup a = some ⟨bt, .r xs 0⟩) (hb2 : bx.lookup v = some ⟨bt', .r vs 0⟩) (hxs : xs ≠ []) (hvs : vs ≠ []) (hav : (a == v) = false) (hm : AV.mentIn [] i = true) (hf : St.fresh d ⟨fr, bx, tk⟩ = true)
    (h : DR P c ops Q st0 (⟨some (d, .bsh d 0 n' k), ((d, ⟨bt, .r ys 0⟩) :: (a, ⟨bt, .l []⟩) :: (v, ⟨bt', .l []⟩) :: []), [], [], [a, v], [], [d]⟩ :: done) ⟨(d, .bsh d 0 n' k) :: fr, (d, ⟨bt, .r ys 0⟩) :: (a, ⟨bt, .l []⟩) :: (v, ⟨bt', .l []⟩) :: bx, tk⟩ rest) : DR P c ops Q st0 done ⟨fr, bx, tk⟩ (⟨some d, .call { callee := .value (.func f), args := args, argTypes := ats }, ty, pos, aft, none⟩ :: rest) :=
  DR.cons (e := ⟨some (d, .bsh d 0 n' k), ((d, ⟨bt, .r ys 0⟩) :: (a, ⟨bt, .l []⟩) :: (v, ⟨bt', .l []⟩) :: []), [], [], [a, v], [], [d]⟩) (fun st' hag Q' hL => LW.out (s_call21 (fr := st'.fr) (bx := st'.bx) (tk := st'.tk) hlt hc ((by rw [agL hag (fun x hx => by simp [Op.operands, Call.operands, hx])]; exact ha)) ((hag.bx a (by simp)).trans hb) ((hag.bx v (by simp)).trans hb2) hxs hvs hav hm (hag.fs d (by simp)) (s_nil hL))) h


theorem d_gdo {dst : Option Tmp} {op : Op} {st : St} {j s : Nat} {b b' : Bool} (hj : (ops[j]?).bind (·.dst) = some s) (hb : st.ev (.tmp s) = aB b') (he : b' = b)
    (h : DR P c ops Q st0 done st (⟨dst, op, ty, pos, aft, none⟩ :: rest)) : DR P c ops Q st0 done st (⟨dst, op, ty, pos, aft, some (j, b)⟩ :: rest) :=
  DR.of_plain (fun e hv st' hag Q' hL => L.guardDo hj ((hag.gd j s b rfl hj).trans (he ▸ hb)) (hv st' ⟨hag.ev, fun j s b hg => (by simp at hg), hag.bx, hag.tk, hag.fs⟩ Q' hL)) h
theorem d_gskipT {op : Op} {j s : Nat} {b' : Bool} (hlt : Nat.ble (d + 1) c.nt = true) (hj : (ops[j]?).bind (·.dst) = some s) (hb : St.ev ⟨fr, bx, tk⟩ (.tmp s) = aB b') (he : b' = false)
    (h : DR P c ops Q st0 (⟨some (d, .opt false .any), [], [], [], [], [], []⟩ :: done) ⟨(d, .opt false .any) :: fr, bx, tk⟩ rest) : DR P c ops Q st0 done ⟨fr, bx, tk⟩ (⟨some d, op, ty, pos, aft, some (j, true)⟩ :: rest) :=
  DR.cons (e := ⟨some (d, .opt false .any), [], [], [], [], [], []⟩) (fun st' hag Q' hL => LW.out (s_gskipT (fr := st'.fr) (bx := st'.bx) (tk := st'.tk) hlt hj ((hag.gd j s true rfl hj).trans hb) he (s_nil hL))) h
theorem d_gskipF {op : Op} {j s : Nat} {b' : Bool} (hlt : Nat.ble (d + 1) c.nt = true) (hj : (ops[j]?).bind (·.dst) = some s) (hb : St.ev ⟨fr, bx, tk⟩ (.tmp s) = aB b') (he : b' = true)
    (h : DR P c ops Q st0 (⟨some (d, .opt false .any), [], [], [], [], [], []⟩ :: done) ⟨(d, .opt false .any) :: fr, bx, tk⟩ rest) : DR P c ops Q st0 done ⟨fr, bx, tk⟩ (⟨some d, op, ty, pos, aft, some (j, false)⟩ :: rest) :=
  DR.cons (e := ⟨some (d, .opt false .any), [], [], [], [], [], []⟩) (fun st' hag Q' hL => LW.out (s_gskipF (fr := st'.fr) (bx := st'.bx) (tk := st'.tk) hlt hj ((hag.gd j s false rfl hj).trans hb) he (s_nil hL))) h
theorem d_gskipU {op : Op} {j s : Nat} {b : Bool} (hlt : Nat.ble (d + 1) c.nt = true) (hj : (ops[j]?).bind (·.dst) = some s) (hb : St.ev ⟨fr, bx, tk⟩ (.tmp s) = .opt false .any)
    (h : DR P c ops Q st0 (⟨some (d, .opt false .any), [], [], [], [], [], []⟩ :: done) ⟨(d, .opt false .any) :: fr, bx, tk⟩ rest) : DR P c ops Q st0 done ⟨fr, bx, tk⟩ (⟨some d, op, ty, pos, aft, some (j, b)⟩ :: rest) :=
  DR.cons (e := ⟨some (d, .opt false .any), [], [], [], [], [], []⟩) (fun st' hag Q' hL => LW.out (s_gskipU (fr := st'.fr) (bx := st'.bx) (tk := st'.tk) hlt hj ((hag.gd j s b rfl hj).trans hb) (s_nil hL))) h
theorem d_gsplit {o : Oper} {st : St} {j s : Nat} {b b' : Bool} (hj : (ops[j]?).bind (·.dst) = some s) (hg : o.guard = some (j, b)) (hb : st.ev (.tmp s) = aB b') (hT : b' = true → DR P c ops Q st0 done st (o :: rest)) (hF : b' = false → DR P c ops Q st0 done st (o :: rest)) : DR P c ops Q st0 done st (o :: rest) := by
  cases b'
  · exact hF rfl
  · exact hT rfl
theorem d_region {st : St} {id : Nat} {l : List Oper} [hm : MixTy P] (h : DR P c l.toArray Q st [] st l) : L c st ((Code.region id l.toArray true).wp P Q) := DR.region hm.h h
theorem d_nil {st : St} (hok : ordOk ops done.reverse st0 = true) (h : L c st (Q .normal)) : DR P c ops Q st0 done st [] := DR.nil hok h
end
end Go.Abs
