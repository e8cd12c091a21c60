/- A logic of abstract states, part 13: the rules of part 11 for a region whose order is open (by program off part 11). Conditions: each rule's own premises; over any program. -/
import Derived.Test.YtanlhpdjgelehaaDoorA12
namespace Go.Abs
set_option linter.unusedVariables false
set_option linter.unusedSimpArgs false

theorem LW.out {P : Program} {c : Ctx} {st : St} {ops : Array Oper} {Q : Exit → Act → World → Prop} {l : List Oper} (h : LW P c st ops Q l) : L c st (wpList P ops Q l) := by unfold LW at h; exact h

section
variable {P : Program} {c : Ctx} {fr : List (Nat × AV)} {bx : List (Nat × Box)} {tk : List (Nat × Tok)} {ops : Array Oper} {Q : Exit → Act → World → Prop} {rest : List Oper}
  {d : Nat} {ty : TypeId} {pos : String} {aft : Array Edge} {st0 : St} {done : List Eff}

theorem LW.is {P : Program} {c : Ctx} {st : St} {ops : Array Oper} {Q : Exit → Act → World → Prop} {l : List Oper} (h : LW P c st ops Q l) : LW P c st ops Q l := h
theorem DR.is {P : Program} {c : Ctx} {st0 st : St} {done : List Eff} {ops : Array Oper} {Q : Exit → Act → World → Prop} {l : List Oper} (h : DR P c ops Q st0 done st l) : DR P c ops Q st0 done st l := h

theorem agP {o : Oper} {e : Eff} {st st' : St} (hag : Agr ops o e st st') {parts : Array (Nat × Operand)} (h : ∀ x ∈ parts, x.2 ∈ o.op.operands) :
    (parts.toList.map fun x => (x.1, st'.ev x.2)) = parts.toList.map fun x => (x.1, st.ev x.2) :=
  List.map_congr_left fun x hx => by rw [hag.ev x.2 (h x (by simpa using hx))]
theorem agL {o : Oper} {e : Eff} {st st' : St} (hag : Agr ops o e st st') {args : Array Operand} (h : ∀ x ∈ args, x ∈ o.op.operands) :
    (args.toList.map st'.ev) = args.toList.map st.ev :=
  List.map_congr_left fun x hx => hag.ev x (h x (by simpa using hx))

theorem d_mvIv {x : Operand} {y : IV} (hlt : Nat.ble (d + 1) c.nt = true) (hx : St.ev ⟨fr, bx, tk⟩ x = .iv y)
    (h : DR P c ops Q st0 (⟨some (d, .iv y), [], [], [], [], [], []⟩ :: done) ⟨(d, .iv y) :: fr, bx, tk⟩ rest) : DR P c ops Q st0 done ⟨fr, bx, tk⟩ (⟨some d, .move x, ty, pos, aft, none⟩ :: rest) :=
  DR.cons (e := ⟨some (d, .iv y), [], [], [], [], [], []⟩) (fun st' hag Q' hL => LW.out (s_mvIv (fr := st'.fr) (bx := st'.bx) (tk := st'.tk) hlt ((hag.ev x (by simp [Op.operands, Call.operands])).trans hx) (s_nil hL))) h

theorem d_mvRow {x : Operand} {id : Nat} {es : List (List IV)} (hlt : Nat.ble (d + 1) c.nt = true) (hx : St.ev ⟨fr, bx, tk⟩ x = .row id es)
    (h : DR P c ops Q st0 (⟨some (d, .row id es), [], [], [], [], [], []⟩ :: done) ⟨(d, .row id es) :: fr, bx, tk⟩ rest) : DR P c ops Q st0 done ⟨fr, bx, tk⟩ (⟨some d, .move x, ty, pos, aft, none⟩ :: rest) :=
  DR.cons (e := ⟨some (d, .row id es), [], [], [], [], [], []⟩) (fun st' hag Q' hL => LW.out (s_mvRow (fr := st'.fr) (bx := st'.bx) (tk := st'.tk) hlt ((hag.ev x (by simp [Op.operands, Call.operands])).trans hx) (s_nil hL))) h

theorem d_mvPtr {x : Operand} {id off : Nat} (hlt : Nat.ble (d + 1) c.nt = true) (hx : St.ev ⟨fr, bx, tk⟩ x = .ptr id off)
    (h : DR P c ops Q st0 (⟨some (d, .ptr id off), [], [], [], [], [], []⟩ :: done) ⟨(d, .ptr id off) :: fr, bx, tk⟩ rest) : DR P c ops Q st0 done ⟨fr, bx, tk⟩ (⟨some d, .move x, ty, pos, aft, none⟩ :: rest) :=
  DR.cons (e := ⟨some (d, .ptr id off), [], [], [], [], [], []⟩) (fun st' hag Q' hL => LW.out (s_mvPtr (fr := st'.fr) (bx := st'.bx) (tk := st'.tk) hlt ((hag.ev x (by simp [Op.operands, Call.operands])).trans hx) (s_nil hL))) h

theorem d_mvAgg {x : Operand} {cs : List AV} (hlt : Nat.ble (d + 1) c.nt = true) (hx : St.ev ⟨fr, bx, tk⟩ x = .agg cs)
    (h : DR P c ops Q st0 (⟨some (d, .agg cs), [], [], [], [], [], []⟩ :: done) ⟨(d, .agg cs) :: fr, bx, tk⟩ rest) : DR P c ops Q st0 done ⟨fr, bx, tk⟩ (⟨some d, .move x, ty, pos, aft, none⟩ :: rest) :=
  DR.cons (e := ⟨some (d, .agg cs), [], [], [], [], [], []⟩) (fun st' hag Q' hL => LW.out (s_mvAgg (fr := st'.fr) (bx := st'.bx) (tk := st'.tk) hlt ((hag.ev x (by simp [Op.operands, Call.operands])).trans hx) (s_nil hL))) h

theorem d_mvEl {x : Operand} {cs : List IV} (hlt : Nat.ble (d + 1) c.nt = true) (hx : St.ev ⟨fr, bx, tk⟩ x = .el cs)
    (h : DR P c ops Q st0 (⟨some (d, .el cs), [], [], [], [], [], []⟩ :: done) ⟨(d, .el cs) :: fr, bx, tk⟩ rest) : DR P c ops Q st0 done ⟨fr, bx, tk⟩ (⟨some d, .move x, ty, pos, aft, none⟩ :: rest) :=
  DR.cons (e := ⟨some (d, .el cs), [], [], [], [], [], []⟩) (fun st' hag Q' hL => LW.out (s_mvEl (fr := st'.fr) (bx := st'.bx) (tk := st'.tk) hlt ((hag.ev x (by simp [Op.operands, Call.operands])).trans hx) (s_nil hL))) h

theorem d_mvNil {x : Operand} (hlt : Nat.ble (d + 1) c.nt = true) (hx : St.ev ⟨fr, bx, tk⟩ x = .nils)
    (h : DR P c ops Q st0 (⟨some (d, .nils), [], [], [], [], [], []⟩ :: done) ⟨(d, .nils) :: fr, bx, tk⟩ rest) : DR P c ops Q st0 done ⟨fr, bx, tk⟩ (⟨some d, .move x, ty, pos, aft, none⟩ :: rest) :=
  DR.cons (e := ⟨some (d, .nils), [], [], [], [], [], []⟩) (fun st' hag Q' hL => LW.out (s_mvNil (fr := st'.fr) (bx := st'.bx) (tk := st'.tk) hlt ((hag.ev x (by simp [Op.operands, Call.operands])).trans hx) (s_nil hL))) h

theorem d_mvTup {x : Operand} {vs : List AV} (hlt : Nat.ble (d + 1) c.nt = true) (hx : St.ev ⟨fr, bx, tk⟩ x = .tup vs)
    (h : DR P c ops Q st0 (⟨some (d, .tup vs), [], [], [], [], [], []⟩ :: done) ⟨(d, .tup vs) :: fr, bx, tk⟩ rest) : DR P c ops Q st0 done ⟨fr, bx, tk⟩ (⟨some d, .move x, ty, pos, aft, none⟩ :: rest) :=
  DR.cons (e := ⟨some (d, .tup vs), [], [], [], [], [], []⟩) (fun st' hag Q' hL => LW.out (s_mvTup (fr := st'.fr) (bx := st'.bx) (tk := st'.tk) hlt ((hag.ev x (by simp [Op.operands, Call.operands])).trans hx) (s_nil hL))) h

theorem d_mvFn {x : Operand} {f : FuncId} {cs : List AV} (hlt : Nat.ble (d + 1) c.nt = true) (hx : St.ev ⟨fr, bx, tk⟩ x = .fn f cs)
    (h : DR P c ops Q st0 (⟨some (d, .fn f cs), [], [], [], [], [], []⟩ :: done) ⟨(d, .fn f cs) :: fr, bx, tk⟩ rest) : DR P c ops Q st0 done ⟨fr, bx, tk⟩ (⟨some d, .move x, ty, pos, aft, none⟩ :: rest) :=
  DR.cons (e := ⟨some (d, .fn f cs), [], [], [], [], [], []⟩) (fun st' hag Q' hL => LW.out (s_mvFn (fr := st'.fr) (bx := st'.bx) (tk := st'.tk) hlt ((hag.ev x (by simp [Op.operands, Call.operands])).trans hx) (s_nil hL))) h

theorem d_mvAny {x : Operand} (hlt : Nat.ble (d + 1) c.nt = true) (hx : St.ev ⟨fr, bx, tk⟩ x = .any)
    (h : DR P c ops Q st0 (⟨some (d, .any), [], [], [], [], [], []⟩ :: done) ⟨(d, .any) :: fr, bx, tk⟩ rest) : DR P c ops Q st0 done ⟨fr, bx, tk⟩ (⟨some d, .move x, ty, pos, aft, none⟩ :: rest) :=
  DR.cons (e := ⟨some (d, .any), [], [], [], [], [], []⟩) (fun st' hag Q' hL => LW.out (s_mvAny (fr := st'.fr) (bx := st'.bx) (tk := st'.tk) hlt ((hag.ev x (by simp [Op.operands, Call.operands])).trans hx) (s_nil hL))) h

theorem d_asIv {x : Operand} {y : IV} (hlt : Nat.ble (d + 1) c.nt = true) (hx : St.ev ⟨fr, bx, tk⟩ x = .iv y)
    (h : DR P c ops Q st0 (⟨some (d, .iv y), [], [], [], [], [], []⟩ :: done) ⟨(d, .iv y) :: fr, bx, tk⟩ rest) : DR P c ops Q st0 done ⟨fr, bx, tk⟩ (⟨some d, .assign x, ty, pos, aft, none⟩ :: rest) :=
  DR.cons (e := ⟨some (d, .iv y), [], [], [], [], [], []⟩) (fun st' hag Q' hL => LW.out (s_asIv (fr := st'.fr) (bx := st'.bx) (tk := st'.tk) hlt ((hag.ev x (by simp [Op.operands, Call.operands])).trans hx) (s_nil hL))) h

theorem d_asRow {x : Operand} {id : Nat} {es : List (List IV)} (hlt : Nat.ble (d + 1) c.nt = true) (hx : St.ev ⟨fr, bx, tk⟩ x = .row id es)
    (h : DR P c ops Q st0 (⟨some (d, .row id es), [], [], [], [], [], []⟩ :: done) ⟨(d, .row id es) :: fr, bx, tk⟩ rest) : DR P c ops Q st0 done ⟨fr, bx, tk⟩ (⟨some d, .assign x, ty, pos, aft, none⟩ :: rest) :=
  DR.cons (e := ⟨some (d, .row id es), [], [], [], [], [], []⟩) (fun st' hag Q' hL => LW.out (s_asRow (fr := st'.fr) (bx := st'.bx) (tk := st'.tk) hlt ((hag.ev x (by simp [Op.operands, Call.operands])).trans hx) (s_nil hL))) h

theorem d_asPtr {x : Operand} {id off : Nat} (hlt : Nat.ble (d + 1) c.nt = true) (hx : St.ev ⟨fr, bx, tk⟩ x = .ptr id off)
    (h : DR P c ops Q st0 (⟨some (d, .ptr id off), [], [], [], [], [], []⟩ :: done) ⟨(d, .ptr id off) :: fr, bx, tk⟩ rest) : DR P c ops Q st0 done ⟨fr, bx, tk⟩ (⟨some d, .assign x, ty, pos, aft, none⟩ :: rest) :=
  DR.cons (e := ⟨some (d, .ptr id off), [], [], [], [], [], []⟩) (fun st' hag Q' hL => LW.out (s_asPtr (fr := st'.fr) (bx := st'.bx) (tk := st'.tk) hlt ((hag.ev x (by simp [Op.operands, Call.operands])).trans hx) (s_nil hL))) h

theorem d_asAgg {x : Operand} {cs : List AV} (hlt : Nat.ble (d + 1) c.nt = true) (hx : St.ev ⟨fr, bx, tk⟩ x = .agg cs)
    (h : DR P c ops Q st0 (⟨some (d, .agg cs), [], [], [], [], [], []⟩ :: done) ⟨(d, .agg cs) :: fr, bx, tk⟩ rest) : DR P c ops Q st0 done ⟨fr, bx, tk⟩ (⟨some d, .assign x, ty, pos, aft, none⟩ :: rest) :=
  DR.cons (e := ⟨some (d, .agg cs), [], [], [], [], [], []⟩) (fun st' hag Q' hL => LW.out (s_asAgg (fr := st'.fr) (bx := st'.bx) (tk := st'.tk) hlt ((hag.ev x (by simp [Op.operands, Call.operands])).trans hx) (s_nil hL))) h

theorem d_asEl {x : Operand} {cs : List IV} (hlt : Nat.ble (d + 1) c.nt = true) (hx : St.ev ⟨fr, bx, tk⟩ x = .el cs)
    (h : DR P c ops Q st0 (⟨some (d, .el cs), [], [], [], [], [], []⟩ :: done) ⟨(d, .el cs) :: fr, bx, tk⟩ rest) : DR P c ops Q st0 done ⟨fr, bx, tk⟩ (⟨some d, .assign x, ty, pos, aft, none⟩ :: rest) :=
  DR.cons (e := ⟨some (d, .el cs), [], [], [], [], [], []⟩) (fun st' hag Q' hL => LW.out (s_asEl (fr := st'.fr) (bx := st'.bx) (tk := st'.tk) hlt ((hag.ev x (by simp [Op.operands, Call.operands])).trans hx) (s_nil hL))) h

theorem d_asNil {x : Operand} (hlt : Nat.ble (d + 1) c.nt = true) (hx : St.ev ⟨fr, bx, tk⟩ x = .nils)
    (h : DR P c ops Q st0 (⟨some (d, .nils), [], [], [], [], [], []⟩ :: done) ⟨(d, .nils) :: fr, bx, tk⟩ rest) : DR P c ops Q st0 done ⟨fr, bx, tk⟩ (⟨some d, .assign x, ty, pos, aft, none⟩ :: rest) :=
  DR.cons (e := ⟨some (d, .nils), [], [], [], [], [], []⟩) (fun st' hag Q' hL => LW.out (s_asNil (fr := st'.fr) (bx := st'.bx) (tk := st'.tk) hlt ((hag.ev x (by simp [Op.operands, Call.operands])).trans hx) (s_nil hL))) h

theorem d_asTup {x : Operand} {vs : List AV} (hlt : Nat.ble (d + 1) c.nt = true) (hx : St.ev ⟨fr, bx, tk⟩ x = .tup vs)
    (h : DR P c ops Q st0 (⟨some (d, .tup vs), [], [], [], [], [], []⟩ :: done) ⟨(d, .tup vs) :: fr, bx, tk⟩ rest) : DR P c ops Q st0 done ⟨fr, bx, tk⟩ (⟨some d, .assign x, ty, pos, aft, none⟩ :: rest) :=
  DR.cons (e := ⟨some (d, .tup vs), [], [], [], [], [], []⟩) (fun st' hag Q' hL => LW.out (s_asTup (fr := st'.fr) (bx := st'.bx) (tk := st'.tk) hlt ((hag.ev x (by simp [Op.operands, Call.operands])).trans hx) (s_nil hL))) h

theorem d_asFn {x : Operand} {f : FuncId} {cs : List AV} (hlt : Nat.ble (d + 1) c.nt = true) (hx : St.ev ⟨fr, bx, tk⟩ x = .fn f cs)
    (h : DR P c ops Q st0 (⟨some (d, .fn f cs), [], [], [], [], [], []⟩ :: done) ⟨(d, .fn f cs) :: fr, bx, tk⟩ rest) : DR P c ops Q st0 done ⟨fr, bx, tk⟩ (⟨some d, .assign x, ty, pos, aft, none⟩ :: rest) :=
  DR.cons (e := ⟨some (d, .fn f cs), [], [], [], [], [], []⟩) (fun st' hag Q' hL => LW.out (s_asFn (fr := st'.fr) (bx := st'.bx) (tk := st'.tk) hlt ((hag.ev x (by simp [Op.operands, Call.operands])).trans hx) (s_nil hL))) h

theorem d_asAny {x : Operand} (hlt : Nat.ble (d + 1) c.nt = true) (hx : St.ev ⟨fr, bx, tk⟩ x = .any)
    (h : DR P c ops Q st0 (⟨some (d, .any), [], [], [], [], [], []⟩ :: done) ⟨(d, .any) :: fr, bx, tk⟩ rest) : DR P c ops Q st0 done ⟨fr, bx, tk⟩ (⟨some d, .assign x, ty, pos, aft, none⟩ :: rest) :=
  DR.cons (e := ⟨some (d, .any), [], [], [], [], [], []⟩) (fun st' hag Q' hL => LW.out (s_asAny (fr := st'.fr) (bx := st'.bx) (tk := st'.tk) hlt ((hag.ev x (by simp [Op.operands, Call.operands])).trans hx) (s_nil hL))) h

theorem d_addI {x y : Operand} {t t' : TypeId} {m n : Int} (hlt : Nat.ble (d + 1) c.nt = true) (hx : St.ev ⟨fr, bx, tk⟩ x = aI m) (hy : St.ev ⟨fr, bx, tk⟩ y = aI n) (hlo : -9223372036854775808 ≤ m + n) (hhi : m + n ≤ 9223372036854775807)
    (h : DR P c ops Q st0 (⟨some (d, aI (m + n)), [], [], [], [], [], []⟩ :: done) ⟨(d, aI (m + n)) :: fr, bx, tk⟩ rest) : DR P c ops Q st0 done ⟨fr, bx, tk⟩ (⟨some d, .binOp .add t x y t', ty, pos, aft, none⟩ :: rest) :=
  DR.cons (e := ⟨some (d, aI (m + n)), [], [], [], [], [], []⟩) (fun st' hag Q' hL => LW.out (s_addI (fr := st'.fr) (bx := st'.bx) (tk := st'.tk) hlt ((hag.ev x (by simp [Op.operands, Call.operands])).trans hx) ((hag.ev y (by simp [Op.operands, Call.operands])).trans hy) hlo hhi (s_nil hL))) h

theorem d_subI {x y : Operand} {t t' : TypeId} {m n : Int} (hlt : Nat.ble (d + 1) c.nt = true) (hx : St.ev ⟨fr, bx, tk⟩ x = aI m) (hy : St.ev ⟨fr, bx, tk⟩ y = aI n) (hlo : -9223372036854775808 ≤ m - n) (hhi : m - n ≤ 9223372036854775807)
    (h : DR P c ops Q st0 (⟨some (d, aI (m - n)), [], [], [], [], [], []⟩ :: done) ⟨(d, aI (m - n)) :: fr, bx, tk⟩ rest) : DR P c ops Q st0 done ⟨fr, bx, tk⟩ (⟨some d, .binOp .sub t x y t', ty, pos, aft, none⟩ :: rest) :=
  DR.cons (e := ⟨some (d, aI (m - n)), [], [], [], [], [], []⟩) (fun st' hag Q' hL => LW.out (s_subI (fr := st'.fr) (bx := st'.bx) (tk := st'.tk) hlt ((hag.ev x (by simp [Op.operands, Call.operands])).trans hx) ((hag.ev y (by simp [Op.operands, Call.operands])).trans hy) hlo hhi (s_nil hL))) h

theorem d_mulI {x y : Operand} {t t' : TypeId} {m n : Int} (hlt : Nat.ble (d + 1) c.nt = true) (hx : St.ev ⟨fr, bx, tk⟩ x = aI m) (hy : St.ev ⟨fr, bx, tk⟩ y = aI n) (hlo : -9223372036854775808 ≤ m * n) (hhi : m * n ≤ 9223372036854775807)
    (h : DR P c ops Q st0 (⟨some (d, aI (m * n)), [], [], [], [], [], []⟩ :: done) ⟨(d, aI (m * n)) :: fr, bx, tk⟩ rest) : DR P c ops Q st0 done ⟨fr, bx, tk⟩ (⟨some d, .binOp .mul t x y t', ty, pos, aft, none⟩ :: rest) :=
  DR.cons (e := ⟨some (d, aI (m * n)), [], [], [], [], [], []⟩) (fun st' hag Q' hL => LW.out (s_mulI (fr := st'.fr) (bx := st'.bx) (tk := st'.tk) hlt ((hag.ev x (by simp [Op.operands, Call.operands])).trans hx) ((hag.ev y (by simp [Op.operands, Call.operands])).trans hy) hlo hhi (s_nil hL))) h

theorem d_eqlI {x y : Operand} {t t' : TypeId} {k : IntKind} {m n : Int} (hlt : Nat.ble (d + 1) c.nt = true) (hx : St.ev ⟨fr, bx, tk⟩ x = .iv (.im (.int k m))) (hy : St.ev ⟨fr, bx, tk⟩ y = .iv (.im (.int k n)))
    (h : DR P c ops Q st0 (⟨some (d, aB (m == n)), [], [], [], [], [], []⟩ :: done) ⟨(d, aB (m == n)) :: fr, bx, tk⟩ rest) : DR P c ops Q st0 done ⟨fr, bx, tk⟩ (⟨some d, .binOp .eql t x y t', ty, pos, aft, none⟩ :: rest) :=
  DR.cons (e := ⟨some (d, aB (m == n)), [], [], [], [], [], []⟩) (fun st' hag Q' hL => LW.out (s_eqlI (fr := st'.fr) (bx := st'.bx) (tk := st'.tk) hlt ((hag.ev x (by simp [Op.operands, Call.operands])).trans hx) ((hag.ev y (by simp [Op.operands, Call.operands])).trans hy) (s_nil hL))) h

theorem d_neqI {x y : Operand} {t t' : TypeId} {k : IntKind} {m n : Int} (hlt : Nat.ble (d + 1) c.nt = true) (hx : St.ev ⟨fr, bx, tk⟩ x = .iv (.im (.int k m))) (hy : St.ev ⟨fr, bx, tk⟩ y = .iv (.im (.int k n)))
    (h : DR P c ops Q st0 (⟨some (d, aB (m != n)), [], [], [], [], [], []⟩ :: done) ⟨(d, aB (m != n)) :: fr, bx, tk⟩ rest) : DR P c ops Q st0 done ⟨fr, bx, tk⟩ (⟨some d, .binOp .neq t x y t', ty, pos, aft, none⟩ :: rest) :=
  DR.cons (e := ⟨some (d, aB (m != n)), [], [], [], [], [], []⟩) (fun st' hag Q' hL => LW.out (s_neqI (fr := st'.fr) (bx := st'.bx) (tk := st'.tk) hlt ((hag.ev x (by simp [Op.operands, Call.operands])).trans hx) ((hag.ev y (by simp [Op.operands, Call.operands])).trans hy) (s_nil hL))) h

theorem d_lssI {x y : Operand} {t t' : TypeId} {k : IntKind} {m n : Int} (hlt : Nat.ble (d + 1) c.nt = true) (hx : St.ev ⟨fr, bx, tk⟩ x = .iv (.im (.int k m))) (hy : St.ev ⟨fr, bx, tk⟩ y = .iv (.im (.int k n)))
    (h : DR P c ops Q st0 (⟨some (d, aB (decide (m < n))), [], [], [], [], [], []⟩ :: done) ⟨(d, aB (decide (m < n))) :: fr, bx, tk⟩ rest) : DR P c ops Q st0 done ⟨fr, bx, tk⟩ (⟨some d, .binOp .lss t x y t', ty, pos, aft, none⟩ :: rest) :=
  DR.cons (e := ⟨some (d, aB (decide (m < n))), [], [], [], [], [], []⟩) (fun st' hag Q' hL => LW.out (s_lssI (fr := st'.fr) (bx := st'.bx) (tk := st'.tk) hlt ((hag.ev x (by simp [Op.operands, Call.operands])).trans hx) ((hag.ev y (by simp [Op.operands, Call.operands])).trans hy) (s_nil hL))) h

theorem d_leqI {x y : Operand} {t t' : TypeId} {k : IntKind} {m n : Int} (hlt : Nat.ble (d + 1) c.nt = true) (hx : St.ev ⟨fr, bx, tk⟩ x = .iv (.im (.int k m))) (hy : St.ev ⟨fr, bx, tk⟩ y = .iv (.im (.int k n)))
    (h : DR P c ops Q st0 (⟨some (d, aB (decide (m ≤ n))), [], [], [], [], [], []⟩ :: done) ⟨(d, aB (decide (m ≤ n))) :: fr, bx, tk⟩ rest) : DR P c ops Q st0 done ⟨fr, bx, tk⟩ (⟨some d, .binOp .leq t x y t', ty, pos, aft, none⟩ :: rest) :=
  DR.cons (e := ⟨some (d, aB (decide (m ≤ n))), [], [], [], [], [], []⟩) (fun st' hag Q' hL => LW.out (s_leqI (fr := st'.fr) (bx := st'.bx) (tk := st'.tk) hlt ((hag.ev x (by simp [Op.operands, Call.operands])).trans hx) ((hag.ev y (by simp [Op.operands, Call.operands])).trans hy) (s_nil hL))) h

theorem d_gtrI {x y : Operand} {t t' : TypeId} {k : IntKind} {m n : Int} (hlt : Nat.ble (d + 1) c.nt = true) (hx : St.ev ⟨fr, bx, tk⟩ x = .iv (.im (.int k m))) (hy : St.ev ⟨fr, bx, tk⟩ y = .iv (.im (.int k n)))
    (h : DR P c ops Q st0 (⟨some (d, aB (decide (n < m))), [], [], [], [], [], []⟩ :: done) ⟨(d, aB (decide (n < m))) :: fr, bx, tk⟩ rest) : DR P c ops Q st0 done ⟨fr, bx, tk⟩ (⟨some d, .binOp .gtr t x y t', ty, pos, aft, none⟩ :: rest) :=
  DR.cons (e := ⟨some (d, aB (decide (n < m))), [], [], [], [], [], []⟩) (fun st' hag Q' hL => LW.out (s_gtrI (fr := st'.fr) (bx := st'.bx) (tk := st'.tk) hlt ((hag.ev x (by simp [Op.operands, Call.operands])).trans hx) ((hag.ev y (by simp [Op.operands, Call.operands])).trans hy) (s_nil hL))) h

theorem d_geqI {x y : Operand} {t t' : TypeId} {k : IntKind} {m n : Int} (hlt : Nat.ble (d + 1) c.nt = true) (hx : St.ev ⟨fr, bx, tk⟩ x = .iv (.im (.int k m))) (hy : St.ev ⟨fr, bx, tk⟩ y = .iv (.im (.int k n)))
    (h : DR P c ops Q st0 (⟨some (d, aB (decide (n ≤ m))), [], [], [], [], [], []⟩ :: done) ⟨(d, aB (decide (n ≤ m))) :: fr, bx, tk⟩ rest) : DR P c ops Q st0 done ⟨fr, bx, tk⟩ (⟨some d, .binOp .geq t x y t', ty, pos, aft, none⟩ :: rest) :=
  DR.cons (e := ⟨some (d, aB (decide (n ≤ m))), [], [], [], [], [], []⟩) (fun st' hag Q' hL => LW.out (s_geqI (fr := st'.fr) (bx := st'.bx) (tk := st'.tk) hlt ((hag.ev x (by simp [Op.operands, Call.operands])).trans hx) ((hag.ev y (by simp [Op.operands, Call.operands])).trans hy) (s_nil hL))) h

theorem d_eqlS {x y : Operand} {t t' : TypeId} {m n : List UInt8} (hlt : Nat.ble (d + 1) c.nt = true) (hx : St.ev ⟨fr, bx, tk⟩ x = aS m) (hy : St.ev ⟨fr, bx, tk⟩ y = aS n)
    (h : DR P c ops Q st0 (⟨some (d, aB (m == n)), [], [], [], [], [], []⟩ :: done) ⟨(d, aB (m == n)) :: fr, bx, tk⟩ rest) : DR P c ops Q st0 done ⟨fr, bx, tk⟩ (⟨some d, .binOp .eql t x y t', ty, pos, aft, none⟩ :: rest) :=
  DR.cons (e := ⟨some (d, aB (m == n)), [], [], [], [], [], []⟩) (fun st' hag Q' hL => LW.out (s_eqlS (fr := st'.fr) (bx := st'.bx) (tk := st'.tk) hlt ((hag.ev x (by simp [Op.operands, Call.operands])).trans hx) ((hag.ev y (by simp [Op.operands, Call.operands])).trans hy) (s_nil hL))) h

theorem d_neqS {x y : Operand} {t t' : TypeId} {m n : List UInt8} (hlt : Nat.ble (d + 1) c.nt = true) (hx : St.ev ⟨fr, bx, tk⟩ x = aS m) (hy : St.ev ⟨fr, bx, tk⟩ y = aS n)
    (h : DR P c ops Q st0 (⟨some (d, aB (!(m == n))), [], [], [], [], [], []⟩ :: done) ⟨(d, aB (!(m == n))) :: fr, bx, tk⟩ rest) : DR P c ops Q st0 done ⟨fr, bx, tk⟩ (⟨some d, .binOp .neq t x y t', ty, pos, aft, none⟩ :: rest) :=
  DR.cons (e := ⟨some (d, aB (!(m == n))), [], [], [], [], [], []⟩) (fun st' hag Q' hL => LW.out (s_neqS (fr := st'.fr) (bx := st'.bx) (tk := st'.tk) hlt ((hag.ev x (by simp [Op.operands, Call.operands])).trans hx) ((hag.ev y (by simp [Op.operands, Call.operands])).trans hy) (s_nil hL))) h

theorem d_lssS {x y : Operand} {t t' : TypeId} {m n : List UInt8} (hlt : Nat.ble (d + 1) c.nt = true) (hx : St.ev ⟨fr, bx, tk⟩ x = aS m) (hy : St.ev ⟨fr, bx, tk⟩ y = aS n)
    (h : DR P c ops Q st0 (⟨some (d, aB (Op.bytesLess m n)), [], [], [], [], [], []⟩ :: done) ⟨(d, aB (Op.bytesLess m n)) :: fr, bx, tk⟩ rest) : DR P c ops Q st0 done ⟨fr, bx, tk⟩ (⟨some d, .binOp .lss t x y t', ty, pos, aft, none⟩ :: rest) :=
  DR.cons (e := ⟨some (d, aB (Op.bytesLess m n)), [], [], [], [], [], []⟩) (fun st' hag Q' hL => LW.out (s_lssS (fr := st'.fr) (bx := st'.bx) (tk := st'.tk) hlt ((hag.ev x (by simp [Op.operands, Call.operands])).trans hx) ((hag.ev y (by simp [Op.operands, Call.operands])).trans hy) (s_nil hL))) h

theorem d_leqS {x y : Operand} {t t' : TypeId} {m n : List UInt8} (hlt : Nat.ble (d + 1) c.nt = true) (hx : St.ev ⟨fr, bx, tk⟩ x = aS m) (hy : St.ev ⟨fr, bx, tk⟩ y = aS n)
    (h : DR P c ops Q st0 (⟨some (d, aB (Op.bytesLess m n || m == n)), [], [], [], [], [], []⟩ :: done) ⟨(d, aB (Op.bytesLess m n || m == n)) :: fr, bx, tk⟩ rest) : DR P c ops Q st0 done ⟨fr, bx, tk⟩ (⟨some d, .binOp .leq t x y t', ty, pos, aft, none⟩ :: rest) :=
  DR.cons (e := ⟨some (d, aB (Op.bytesLess m n || m == n)), [], [], [], [], [], []⟩) (fun st' hag Q' hL => LW.out (s_leqS (fr := st'.fr) (bx := st'.bx) (tk := st'.tk) hlt ((hag.ev x (by simp [Op.operands, Call.operands])).trans hx) ((hag.ev y (by simp [Op.operands, Call.operands])).trans hy) (s_nil hL))) h

theorem d_gtrS {x y : Operand} {t t' : TypeId} {m n : List UInt8} (hlt : Nat.ble (d + 1) c.nt = true) (hx : St.ev ⟨fr, bx, tk⟩ x = aS m) (hy : St.ev ⟨fr, bx, tk⟩ y = aS n)
    (h : DR P c ops Q st0 (⟨some (d, aB (!(Op.bytesLess m n || m == n))), [], [], [], [], [], []⟩ :: done) ⟨(d, aB (!(Op.bytesLess m n || m == n))) :: fr, bx, tk⟩ rest) : DR P c ops Q st0 done ⟨fr, bx, tk⟩ (⟨some d, .binOp .gtr t x y t', ty, pos, aft, none⟩ :: rest) :=
  DR.cons (e := ⟨some (d, aB (!(Op.bytesLess m n || m == n))), [], [], [], [], [], []⟩) (fun st' hag Q' hL => LW.out (s_gtrS (fr := st'.fr) (bx := st'.bx) (tk := st'.tk) hlt ((hag.ev x (by simp [Op.operands, Call.operands])).trans hx) ((hag.ev y (by simp [Op.operands, Call.operands])).trans hy) (s_nil hL))) h

theorem d_geqS {x y : Operand} {t t' : TypeId} {m n : List UInt8} (hlt : Nat.ble (d + 1) c.nt = true) (hx : St.ev ⟨fr, bx, tk⟩ x = aS m) (hy : St.ev ⟨fr, bx, tk⟩ y = aS n)
    (h : DR P c ops Q st0 (⟨some (d, aB (!(Op.bytesLess m n))), [], [], [], [], [], []⟩ :: done) ⟨(d, aB (!(Op.bytesLess m n))) :: fr, bx, tk⟩ rest) : DR P c ops Q st0 done ⟨fr, bx, tk⟩ (⟨some d, .binOp .geq t x y t', ty, pos, aft, none⟩ :: rest) :=
  DR.cons (e := ⟨some (d, aB (!(Op.bytesLess m n))), [], [], [], [], [], []⟩) (fun st' hag Q' hL => LW.out (s_geqS (fr := st'.fr) (bx := st'.bx) (tk := st'.tk) hlt ((hag.ev x (by simp [Op.operands, Call.operands])).trans hx) ((hag.ev y (by simp [Op.operands, Call.operands])).trans hy) (s_nil hL))) h

theorem d_addS {x y : Operand} {t t' : TypeId} {m n : List UInt8} (hlt : Nat.ble (d + 1) c.nt = true) (hx : St.ev ⟨fr, bx, tk⟩ x = aS m) (hy : St.ev ⟨fr, bx, tk⟩ y = aS n) (hl : m.length + n.length ≤ 9223372036854775807)
    (h : DR P c ops Q st0 (⟨some (d, aS (m ++ n)), [], [], [], [], [], []⟩ :: done) ⟨(d, aS (m ++ n)) :: fr, bx, tk⟩ rest) : DR P c ops Q st0 done ⟨fr, bx, tk⟩ (⟨some d, .binOp .add t x y t', ty, pos, aft, none⟩ :: rest) :=
  DR.cons (e := ⟨some (d, aS (m ++ n)), [], [], [], [], [], []⟩) (fun st' hag Q' hL => LW.out (s_addS (fr := st'.fr) (bx := st'.bx) (tk := st'.tk) hlt ((hag.ev x (by simp [Op.operands, Call.operands])).trans hx) ((hag.ev y (by simp [Op.operands, Call.operands])).trans hy) hl (s_nil hL))) h

theorem d_eqlB {x y : Operand} {t t' : TypeId} {m n : Bool} (hlt : Nat.ble (d + 1) c.nt = true) (hx : St.ev ⟨fr, bx, tk⟩ x = aB m) (hy : St.ev ⟨fr, bx, tk⟩ y = aB n) [ht : BoolTy P t]
    (h : DR P c ops Q st0 (⟨some (d, aB (m == n)), [], [], [], [], [], []⟩ :: done) ⟨(d, aB (m == n)) :: fr, bx, tk⟩ rest) : DR P c ops Q st0 done ⟨fr, bx, tk⟩ (⟨some d, .binOp .eql t x y t', ty, pos, aft, none⟩ :: rest) :=
  DR.cons (e := ⟨some (d, aB (m == n)), [], [], [], [], [], []⟩) (fun st' hag Q' hL => LW.out (s_eqlB (fr := st'.fr) (bx := st'.bx) (tk := st'.tk) hlt ((hag.ev x (by simp [Op.operands, Call.operands])).trans hx) ((hag.ev y (by simp [Op.operands, Call.operands])).trans hy) (s_nil hL))) h

theorem d_neqB {x y : Operand} {t t' : TypeId} {m n : Bool} (hlt : Nat.ble (d + 1) c.nt = true) (hx : St.ev ⟨fr, bx, tk⟩ x = aB m) (hy : St.ev ⟨fr, bx, tk⟩ y = aB n) [ht : BoolTy P t]
    (h : DR P c ops Q st0 (⟨some (d, aB (!(m == n))), [], [], [], [], [], []⟩ :: done) ⟨(d, aB (!(m == n))) :: fr, bx, tk⟩ rest) : DR P c ops Q st0 done ⟨fr, bx, tk⟩ (⟨some d, .binOp .neq t x y t', ty, pos, aft, none⟩ :: rest) :=
  DR.cons (e := ⟨some (d, aB (!(m == n))), [], [], [], [], [], []⟩) (fun st' hag Q' hL => LW.out (s_neqB (fr := st'.fr) (bx := st'.bx) (tk := st'.tk) hlt ((hag.ev x (by simp [Op.operands, Call.operands])).trans hx) ((hag.ev y (by simp [Op.operands, Call.operands])).trans hy) (s_nil hL))) h

theorem d_not {x : Operand} {t : TypeId} {b : Bool} (hlt : Nat.ble (d + 1) c.nt = true) (hx : St.ev ⟨fr, bx, tk⟩ x = aB b)
    (h : DR P c ops Q st0 (⟨some (d, aB (!b)), [], [], [], [], [], []⟩ :: done) ⟨(d, aB (!b)) :: fr, bx, tk⟩ rest) : DR P c ops Q st0 done ⟨fr, bx, tk⟩ (⟨some d, .unOp .not t x, ty, pos, aft, none⟩ :: rest) :=
  DR.cons (e := ⟨some (d, aB (!b)), [], [], [], [], [], []⟩) (fun st' hag Q' hL => LW.out (s_not (fr := st'.fr) (bx := st'.bx) (tk := st'.tk) hlt ((hag.ev x (by simp [Op.operands, Call.operands])).trans hx) (s_nil hL))) h

theorem d_negI {x : Operand} {t : TypeId} {m : Int} (hlt : Nat.ble (d + 1) c.nt = true) (hx : St.ev ⟨fr, bx, tk⟩ x = aI m) (hlo : -9223372036854775808 ≤ 0 - m) (hhi : 0 - m ≤ 9223372036854775807)
    (h : DR P c ops Q st0 (⟨some (d, aI (0 - m)), [], [], [], [], [], []⟩ :: done) ⟨(d, aI (0 - m)) :: fr, bx, tk⟩ rest) : DR P c ops Q st0 done ⟨fr, bx, tk⟩ (⟨some d, .unOp .neg t x, ty, pos, aft, none⟩ :: rest) :=
  DR.cons (e := ⟨some (d, aI (0 - m)), [], [], [], [], [], []⟩) (fun st' hag Q' hL => LW.out (s_negI (fr := st'.fr) (bx := st'.bx) (tk := st'.tk) hlt ((hag.ev x (by simp [Op.operands, Call.operands])).trans hx) hlo hhi (s_nil hL))) h

theorem d_conv {x : Operand} {s t : TypeId} {k k0 k' : IntKind} {m : Int} (hlt : Nat.ble (d + 1) c.nt = true) (hx : St.ev ⟨fr, bx, tk⟩ x = .iv (.im (.int k m))) [ht : IntTy P t k'] [hs : IntTy P s k0]
    (h : DR P c ops Q st0 (⟨some (d, .iv (.im (.int k' (k'.wrap m)))), [], [], [], [], [], []⟩ :: done) ⟨(d, .iv (.im (.int k' (k'.wrap m)))) :: fr, bx, tk⟩ rest) : DR P c ops Q st0 done ⟨fr, bx, tk⟩ (⟨some d, .convert s t x, ty, pos, aft, none⟩ :: rest) :=
  DR.cons (e := ⟨some (d, .iv (.im (.int k' (k'.wrap m)))), [], [], [], [], [], []⟩) (fun st' hag Q' hL => LW.out (s_conv (fr := st'.fr) (bx := st'.bx) (tk := st'.tk) hlt ((hag.ev x (by simp [Op.operands, Call.operands])).trans hx) (s_nil hL))) h

theorem d_arith {x y : Operand} {t t' : TypeId} {op : BinOp} {k : IntKind} {m n r : Int} (hlt : Nat.ble (d + 1) c.nt = true) (hx : St.ev ⟨fr, bx, tk⟩ x = .iv (.im (.int k m))) (hy : St.ev ⟨fr, bx, tk⟩ y = .iv (.im (.int k n))) (hr : ∀ w, (binOp op t (.int k m) (.int k n)).run P w = .ok (.int k r) w) (hq : ∀ w, (eqGuard op t x y (.int k m) (.int k n)).run P w = .ok () w)
    (h : DR P c ops Q st0 (⟨some (d, .iv (.im (.int k r))), [], [], [], [], [], []⟩ :: done) ⟨(d, .iv (.im (.int k r))) :: fr, bx, tk⟩ rest) : DR P c ops Q st0 done ⟨fr, bx, tk⟩ (⟨some d, .binOp op t x y t', ty, pos, aft, none⟩ :: rest) :=
  DR.cons (e := ⟨some (d, .iv (.im (.int k r))), [], [], [], [], [], []⟩) (fun st' hag Q' hL => LW.out (s_arith (fr := st'.fr) (bx := st'.bx) (tk := st'.tk) hlt ((hag.ev x (by simp [Op.operands, Call.operands])).trans hx) ((hag.ev y (by simp [Op.operands, Call.operands])).trans hy) hr hq (s_nil hL))) h

theorem d_lenS {x : Operand} {t : TypeId} {m : List UInt8} (hlt : Nat.ble (d + 1) c.nt = true) (hx : St.ev ⟨fr, bx, tk⟩ x = aS m) [ht : StrTy P t]
    (h : DR P c ops Q st0 (⟨some (d, aI m.length), [], [], [], [], [], []⟩ :: done) ⟨(d, aI m.length) :: fr, bx, tk⟩ rest) : DR P c ops Q st0 done ⟨fr, bx, tk⟩ (⟨some d, .call { callee := .builtin .len, args := #[x], argTypes := #[t] }, ty, pos, aft, none⟩ :: rest) :=
  DR.cons (e := ⟨some (d, aI m.length), [], [], [], [], [], []⟩) (fun st' hag Q' hL => LW.out (s_lenS (fr := st'.fr) (bx := st'.bx) (tk := st'.tk) hlt ((hag.ev x (by simp [Op.operands, Call.operands])).trans hx) (s_nil hL))) h

theorem d_lenSl {x : Operand} {t e : TypeId} {k : Nat} {es : List (List IV)} (hlt : Nat.ble (d + 1) c.nt = true) (hx : (St.ev ⟨fr, bx, tk⟩ x).sl? = some es) [hs : SliceTy P t e k]
    (h : DR P c ops Q st0 (⟨some (d, aI es.length), [], [], [], [], [], []⟩ :: done) ⟨(d, aI es.length) :: fr, bx, tk⟩ rest) : DR P c ops Q st0 done ⟨fr, bx, tk⟩ (⟨some d, .call { callee := .builtin .len, args := #[x], argTypes := #[t] }, ty, pos, aft, none⟩ :: rest) :=
  DR.cons (e := ⟨some (d, aI es.length), [], [], [], [], [], []⟩) (fun st' hag Q' hL => LW.out (s_lenSl (fr := st'.fr) (bx := st'.bx) (tk := st'.tk) hlt ((congrArg AV.sl? (hag.ev x (by simp [Op.operands, Call.operands]))).trans hx) (s_nil hL))) h

theorem d_indexS {x i : Operand} {t : TypeId} {m : List UInt8} {k : IntKind} {n : Int} {b : UInt8} (hlt : Nat.ble (d + 1) c.nt = true) (hx : St.ev ⟨fr, bx, tk⟩ x = aS m) (hn : St.ev ⟨fr, bx, tk⟩ i = .iv (.im (.int k n))) [ht : StrTy P t] (h0 : 0 ≤ n) (hb : m[n.toNat]? = some b)
    (h : DR P c ops Q st0 (⟨some (d, .iv (.im (.int .u8 b.toNat))), [], [], [], [], [], []⟩ :: done) ⟨(d, .iv (.im (.int .u8 b.toNat))) :: fr, bx, tk⟩ rest) : DR P c ops Q st0 done ⟨fr, bx, tk⟩ (⟨some d, .index t x i, ty, pos, aft, none⟩ :: rest) :=
  DR.cons (e := ⟨some (d, .iv (.im (.int .u8 b.toNat))), [], [], [], [], [], []⟩) (fun st' hag Q' hL => LW.out (s_indexS (fr := st'.fr) (bx := st'.bx) (tk := st'.tk) hlt ((hag.ev x (by simp [Op.operands, Call.operands])).trans hx) ((hag.ev i (by simp [Op.operands, Call.operands])).trans hn) h0 hb (s_nil hL))) h

theorem d_indexD {x i : Operand} {t : TypeId} {m : List UInt8} {k : IntKind} {n : Int} (hlt : Nat.ble (d + 1) c.nt = true) (hx : St.ev ⟨fr, bx, tk⟩ x = aS m) (hn : St.ev ⟨fr, bx, tk⟩ i = .iv (.im (.int k n))) [ht : StrTy P t] (h0 : 0 ≤ n) (h1 : n < m.length)
    (h : DR P c ops Q st0 (⟨some (d, .iv (.im (.int .u8 (m.getD n.toNat 0).toNat))), [], [], [], [], [], []⟩ :: done) ⟨(d, .iv (.im (.int .u8 (m.getD n.toNat 0).toNat))) :: fr, bx, tk⟩ rest) : DR P c ops Q st0 done ⟨fr, bx, tk⟩ (⟨some d, .index t x i, ty, pos, aft, none⟩ :: rest) :=
  DR.cons (e := ⟨some (d, .iv (.im (.int .u8 (m.getD n.toNat 0).toNat))), [], [], [], [], [], []⟩) (fun st' hag Q' hL => LW.out (s_indexD (fr := st'.fr) (bx := st'.bx) (tk := st'.tk) hlt ((hag.ev x (by simp [Op.operands, Call.operands])).trans hx) ((hag.ev i (by simp [Op.operands, Call.operands])).trans hn) h0 h1 (s_nil hL))) h

theorem d_fieldP {s : TypeId} {x : Operand} {f fo id off off' : Nat} (hlt : Nat.ble (d + 1) c.nt = true) (hx : St.ev ⟨fr, bx, tk⟩ x = .ptr id off) [hf : FieldTy P s f fo] (ho : off + fo = off')
    (h : DR P c ops Q st0 (⟨some (d, .ptr id off'), [], [], [], [], [], []⟩ :: done) ⟨(d, .ptr id off') :: fr, bx, tk⟩ rest) : DR P c ops Q st0 done ⟨fr, bx, tk⟩ (⟨some d, .fieldAddr s x f, ty, pos, aft, none⟩ :: rest) :=
  DR.cons (e := ⟨some (d, .ptr id off'), [], [], [], [], [], []⟩) (fun st' hag Q' hL => LW.out (s_fieldP (fr := st'.fr) (bx := st'.bx) (tk := st'.tk) hlt ((hag.ev x (by simp [Op.operands, Call.operands])).trans hx) ho (s_nil hL))) h

theorem d_fieldE {s : TypeId} {x : Operand} {f fo : Nat} {cs cs' : List IV} (hlt : Nat.ble (d + 1) c.nt = true) (hx : St.ev ⟨fr, bx, tk⟩ x = .el cs) [hf : FieldTy P s f fo] (hc : cs.drop fo = cs')
    (h : DR P c ops Q st0 (⟨some (d, .el cs'), [], [], [], [], [], []⟩ :: done) ⟨(d, .el cs') :: fr, bx, tk⟩ rest) : DR P c ops Q st0 done ⟨fr, bx, tk⟩ (⟨some d, .fieldAddr s x f, ty, pos, aft, none⟩ :: rest) :=
  DR.cons (e := ⟨some (d, .el cs'), [], [], [], [], [], []⟩) (fun st' hag Q' hL => LW.out (s_fieldE (fr := st'.fr) (bx := st'.bx) (tk := st'.tk) hlt ((hag.ev x (by simp [Op.operands, Call.operands])).trans hx) hc (s_nil hL))) h

theorem d_indexA {t e : TypeId} {x i : Operand} {k : Nat} {kd : IntKind} {n : Int} {es : List (List IV)} {cs : List IV} (hlt : Nat.ble (d + 1) c.nt = true) (hx : (St.ev ⟨fr, bx, tk⟩ x).sl? = some es) (hn : St.ev ⟨fr, bx, tk⟩ i = .iv (.im (.int kd n))) [hs : SliceTy P t e k] (h0 : 0 ≤ n) (hc : es[n.toNat]? = some cs) (hl : cs.length = k)
    (h : DR P c ops Q st0 (⟨some (d, .el cs), [], [], [], [], [], []⟩ :: done) ⟨(d, .el cs) :: fr, bx, tk⟩ rest) : DR P c ops Q st0 done ⟨fr, bx, tk⟩ (⟨some d, .indexAddr t x i, ty, pos, aft, none⟩ :: rest) :=
  DR.cons (e := ⟨some (d, .el cs), [], [], [], [], [], []⟩) (fun st' hag Q' hL => LW.out (s_indexA (fr := st'.fr) (bx := st'.bx) (tk := st'.tk) hlt ((congrArg AV.sl? (hag.ev x (by simp [Op.operands, Call.operands]))).trans hx) ((hag.ev i (by simp [Op.operands, Call.operands])).trans hn) h0 hc hl (s_nil hL))) h

theorem d_load1P {t : TypeId} {x : Operand} {id off : Nat} {b : Box} {v : AV} (hlt : Nat.ble (d + 1) c.nt = true) (hx : St.ev ⟨fr, bx, tk⟩ x = .ptr id off) [ht : VarTy P t false 1] (hb : bx.lookup id = some b) (hv : b.cs[off]? = some v)
    (h : DR P c ops Q st0 (⟨some (d, v), [], [], [], [id], [], []⟩ :: done) ⟨(d, v) :: fr, bx, tk⟩ rest) : DR P c ops Q st0 done ⟨fr, bx, tk⟩ (⟨some d, .load t x, ty, pos, aft, none⟩ :: rest) :=
  DR.cons (e := ⟨some (d, v), [], [], [], [id], [], []⟩) (fun st' hag Q' hL => LW.out (s_load1P (fr := st'.fr) (bx := st'.bx) (tk := st'.tk) hlt ((hag.ev x (by simp [Op.operands, Call.operands])).trans hx) ((hag.bx id (by simp)).trans hb) hv (s_nil hL))) h

theorem d_loadAP {t : TypeId} {x : Operand} {id off k : Nat} {b : Box} {cs : List AV} (hlt : Nat.ble (d + 1) c.nt = true) (hx : St.ev ⟨fr, bx, tk⟩ x = .ptr id off) [ht : VarTy P t true k] (hb : bx.lookup id = some b) (hc : (b.cs.drop off).take k = cs) (hk : cs.length = k)
    (h : DR P c ops Q st0 (⟨some (d, .agg cs), [], [], [], [id], [], []⟩ :: done) ⟨(d, .agg cs) :: fr, bx, tk⟩ rest) : DR P c ops Q st0 done ⟨fr, bx, tk⟩ (⟨some d, .load t x, ty, pos, aft, none⟩ :: rest) :=
  DR.cons (e := ⟨some (d, .agg cs), [], [], [], [id], [], []⟩) (fun st' hag Q' hL => LW.out (s_loadAP (fr := st'.fr) (bx := st'.bx) (tk := st'.tk) hlt ((hag.ev x (by simp [Op.operands, Call.operands])).trans hx) ((hag.bx id (by simp)).trans hb) hc hk (s_nil hL))) h

theorem d_load1E {t : TypeId} {x : Operand} {y : IV} {cs : List IV} (hlt : Nat.ble (d + 1) c.nt = true) (hx : St.ev ⟨fr, bx, tk⟩ x = .el cs) [ht : VarTy P t false 1] (hy : cs[0]? = some y)
    (h : DR P c ops Q st0 (⟨some (d, .iv y), [], [], [], [], [], []⟩ :: done) ⟨(d, .iv y) :: fr, bx, tk⟩ rest) : DR P c ops Q st0 done ⟨fr, bx, tk⟩ (⟨some d, .load t x, ty, pos, aft, none⟩ :: rest) :=
  DR.cons (e := ⟨some (d, .iv y), [], [], [], [], [], []⟩) (fun st' hag Q' hL => LW.out (s_load1E (fr := st'.fr) (bx := st'.bx) (tk := st'.tk) hlt ((hag.ev x (by simp [Op.operands, Call.operands])).trans hx) hy (s_nil hL))) h

theorem d_loadAE {t : TypeId} {x : Operand} {k : Nat} {cs : List IV} {vs : List AV} (hlt : Nat.ble (d + 1) c.nt = true) (hx : St.ev ⟨fr, bx, tk⟩ x = .el cs) [ht : VarTy P t true k] (hc : (cs.take k).map AV.iv = vs) (hk : vs.length = k)
    (h : DR P c ops Q st0 (⟨some (d, .agg vs), [], [], [], [], [], []⟩ :: done) ⟨(d, .agg vs) :: fr, bx, tk⟩ rest) : DR P c ops Q st0 done ⟨fr, bx, tk⟩ (⟨some d, .load t x, ty, pos, aft, none⟩ :: rest) :=
  DR.cons (e := ⟨some (d, .agg vs), [], [], [], [], [], []⟩) (fun st' hag Q' hL => LW.out (s_loadAE (fr := st'.fr) (bx := st'.bx) (tk := st'.tk) hlt ((hag.ev x (by simp [Op.operands, Call.operands])).trans hx) hc hk (s_nil hL))) h

theorem d_extract {x : Operand} {i : Nat} {vs : List AV} {v : AV} (hlt : Nat.ble (d + 1) c.nt = true) (hx : St.ev ⟨fr, bx, tk⟩ x = .tup vs) (hv : vs[i]? = some v)
    (h : DR P c ops Q st0 (⟨some (d, v), [], [], [], [], [], []⟩ :: done) ⟨(d, v) :: fr, bx, tk⟩ rest) : DR P c ops Q st0 done ⟨fr, bx, tk⟩ (⟨some d, .extract x i, ty, pos, aft, none⟩ :: rest) :=
  DR.cons (e := ⟨some (d, v), [], [], [], [], [], []⟩) (fun st' hag Q' hL => LW.out (s_extract (fr := st'.fr) (bx := st'.bx) (tk := st'.tk) hlt ((hag.ev x (by simp [Op.operands, Call.operands])).trans hx) hv (s_nil hL))) h

theorem d_nilP {x : Operand} {id off : Nat} (hlt : Nat.ble (d + 1) c.nt = true) (hx : St.ev ⟨fr, bx, tk⟩ x = .ptr id off)
    (h : DR P c ops Q st0 (⟨some (d, .ptr id off), [], [], [], [], [], []⟩ :: done) ⟨(d, .ptr id off) :: fr, bx, tk⟩ rest) : DR P c ops Q st0 done ⟨fr, bx, tk⟩ (⟨some d, .nilCheck x, ty, pos, aft, none⟩ :: rest) :=
  DR.cons (e := ⟨some (d, .ptr id off), [], [], [], [], [], []⟩) (fun st' hag Q' hL => LW.out (s_nilP (fr := st'.fr) (bx := st'.bx) (tk := st'.tk) hlt ((hag.ev x (by simp [Op.operands, Call.operands])).trans hx) (s_nil hL))) h

theorem d_nilE {x : Operand} {cs : List IV} (hlt : Nat.ble (d + 1) c.nt = true) (hx : St.ev ⟨fr, bx, tk⟩ x = .el cs)
    (h : DR P c ops Q st0 (⟨some (d, .el cs), [], [], [], [], [], []⟩ :: done) ⟨(d, .el cs) :: fr, bx, tk⟩ rest) : DR P c ops Q st0 done ⟨fr, bx, tk⟩ (⟨some d, .nilCheck x, ty, pos, aft, none⟩ :: rest) :=
  DR.cons (e := ⟨some (d, .el cs), [], [], [], [], [], []⟩) (fun st' hag Q' hL => LW.out (s_nilE (fr := st'.fr) (bx := st'.bx) (tk := st'.tk) hlt ((hag.ev x (by simp [Op.operands, Call.operands])).trans hx) (s_nil hL))) h

theorem d_build {t : TypeId} {parts : Array (Nat × Operand)} {zs : List Value} {pl : List (Nat × Nat)} {cs : List AV} (hlt : Nat.ble (d + 1) c.nt = true) [hz : ZeroTy P t zs] (h1 : zs.all (·.oneCell') = true) [hp : PlacesTy P t pl] (hf : fillA (pl[·]?) (zs.map constCell) (parts.toList.map fun x => (x.1, St.ev ⟨fr, bx, tk⟩ x.2)) = some cs)
    (h : DR P c ops Q st0 (⟨some (d, .agg cs), [], [], [], [], [], []⟩ :: done) ⟨(d, .agg cs) :: fr, bx, tk⟩ rest) : DR P c ops Q st0 done ⟨fr, bx, tk⟩ (⟨some d, .build t parts, ty, pos, aft, none⟩ :: rest) :=
  DR.cons (e := ⟨some (d, .agg cs), [], [], [], [], [], []⟩) (fun st' hag Q' hL => LW.out (s_build (fr := st'.fr) (bx := st'.bx) (tk := st'.tk) hlt h1 ((by rw [agP hag (fun x hx => by simp only [Op.operands]; exact List.mem_toArray.2 (List.mem_map.2 ⟨x, by simpa using hx, rfl⟩))]; exact hf)) (s_nil hL))) h

theorem d_eqlAgg {x y : Operand} {t t' : TypeId} {cs ds : List AV} {ks : List Nat} {b : Bool} (hlt : Nat.ble (d + 1) c.nt = true) (hx : St.ev ⟨fr, bx, tk⟩ x = .agg cs) (hy : St.ev ⟨fr, bx, tk⟩ y = .agg ds) [hok : EqTy P t ks] (hn : cs.map vKind = ks) (hb : eqVs cs ds = some b)
    (h : DR P c ops Q st0 (⟨some (d, aB (b)), [], [], [], [], [], []⟩ :: done) ⟨(d, aB (b)) :: fr, bx, tk⟩ rest) : DR P c ops Q st0 done ⟨fr, bx, tk⟩ (⟨some d, .binOp .eql t x y t', ty, pos, aft, none⟩ :: rest) :=
  DR.cons (e := ⟨some (d, aB (b)), [], [], [], [], [], []⟩) (fun st' hag Q' hL => LW.out (s_eqlAgg (fr := st'.fr) (bx := st'.bx) (tk := st'.tk) hlt ((hag.ev x (by simp [Op.operands, Call.operands])).trans hx) ((hag.ev y (by simp [Op.operands, Call.operands])).trans hy) hn hb (s_nil hL))) h

theorem d_neqAgg {x y : Operand} {t t' : TypeId} {cs ds : List AV} {ks : List Nat} {b : Bool} (hlt : Nat.ble (d + 1) c.nt = true) (hx : St.ev ⟨fr, bx, tk⟩ x = .agg cs) (hy : St.ev ⟨fr, bx, tk⟩ y = .agg ds) [hok : EqTy P t ks] (hn : cs.map vKind = ks) (hb : eqVs cs ds = some b)
    (h : DR P c ops Q st0 (⟨some (d, aB (!b)), [], [], [], [], [], []⟩ :: done) ⟨(d, aB (!b)) :: fr, bx, tk⟩ rest) : DR P c ops Q st0 done ⟨fr, bx, tk⟩ (⟨some d, .binOp .neq t x y t', ty, pos, aft, none⟩ :: rest) :=
  DR.cons (e := ⟨some (d, aB (!b)), [], [], [], [], [], []⟩) (fun st' hag Q' hL => LW.out (s_neqAgg (fr := st'.fr) (bx := st'.bx) (tk := st'.tk) hlt ((hag.ev x (by simp [Op.operands, Call.operands])).trans hx) ((hag.ev y (by simp [Op.operands, Call.operands])).trans hy) hn hb (s_nil hL))) h

theorem d_shrI {x y : Operand} {t t' : TypeId} {k k' : IntKind} {m n : Int} (hlt : Nat.ble (d + 1) c.nt = true) (hx : St.ev ⟨fr, bx, tk⟩ x = .iv (.im (.int k m))) (hy : St.ev ⟨fr, bx, tk⟩ y = .iv (.im (.int k' n))) (h0 : 0 ≤ n)
    (h : DR P c ops Q st0 (⟨some (d, .iv (.im (.int k (m.fdiv (2 ^ min n.toNat k.bits))))), [], [], [], [], [], []⟩ :: done) ⟨(d, .iv (.im (.int k (m.fdiv (2 ^ min n.toNat k.bits))))) :: fr, bx, tk⟩ rest) : DR P c ops Q st0 done ⟨fr, bx, tk⟩ (⟨some d, .binOp .shr t x y t', ty, pos, aft, none⟩ :: rest) :=
  DR.cons (e := ⟨some (d, .iv (.im (.int k (m.fdiv (2 ^ min n.toNat k.bits))))), [], [], [], [], [], []⟩) (fun st' hag Q' hL => LW.out (s_shrI (fr := st'.fr) (bx := st'.bx) (tk := st'.tk) hlt ((hag.ev x (by simp [Op.operands, Call.operands])).trans hx) ((hag.ev y (by simp [Op.operands, Call.operands])).trans hy) h0 (s_nil hL))) h

theorem d_shlI {x y : Operand} {t t' : TypeId} {k k' : IntKind} {m n : Int} (hlt : Nat.ble (d + 1) c.nt = true) (hx : St.ev ⟨fr, bx, tk⟩ x = .iv (.im (.int k m))) (hy : St.ev ⟨fr, bx, tk⟩ y = .iv (.im (.int k' n))) (h0 : 0 ≤ n)
    (h : DR P c ops Q st0 (⟨some (d, .iv (.im (.int k (k.wrap (m * 2 ^ min n.toNat k.bits))))), [], [], [], [], [], []⟩ :: done) ⟨(d, .iv (.im (.int k (k.wrap (m * 2 ^ min n.toNat k.bits))))) :: fr, bx, tk⟩ rest) : DR P c ops Q st0 done ⟨fr, bx, tk⟩ (⟨some d, .binOp .shl t x y t', ty, pos, aft, none⟩ :: rest) :=
  DR.cons (e := ⟨some (d, .iv (.im (.int k (k.wrap (m * 2 ^ min n.toNat k.bits))))), [], [], [], [], [], []⟩) (fun st' hag Q' hL => LW.out (s_shlI (fr := st'.fr) (bx := st'.bx) (tk := st'.tk) hlt ((hag.ev x (by simp [Op.operands, Call.operands])).trans hx) ((hag.ev y (by simp [Op.operands, Call.operands])).trans hy) h0 (s_nil hL))) h

theorem d_orI {x y : Operand} {t t' : TypeId} {k : IntKind} {m n : Int} (hlt : Nat.ble (d + 1) c.nt = true) (hx : St.ev ⟨fr, bx, tk⟩ x = .iv (.im (.int k m))) (hy : St.ev ⟨fr, bx, tk⟩ y = .iv (.im (.int k n)))
    (h : DR P c ops Q st0 (⟨some (d, .iv (.im (.int k (k.wrap ((BitVec.ofInt k.bits m ||| BitVec.ofInt k.bits n).toNat : Int))))), [], [], [], [], [], []⟩ :: done) ⟨(d, .iv (.im (.int k (k.wrap ((BitVec.ofInt k.bits m ||| BitVec.ofInt k.bits n).toNat : Int))))) :: fr, bx, tk⟩ rest) : DR P c ops Q st0 done ⟨fr, bx, tk⟩ (⟨some d, .binOp .or t x y t', ty, pos, aft, none⟩ :: rest) :=
  DR.cons (e := ⟨some (d, .iv (.im (.int k (k.wrap ((BitVec.ofInt k.bits m ||| BitVec.ofInt k.bits n).toNat : Int))))), [], [], [], [], [], []⟩) (fun st' hag Q' hL => LW.out (s_orI (fr := st'.fr) (bx := st'.bx) (tk := st'.tk) hlt ((hag.ev x (by simp [Op.operands, Call.operands])).trans hx) ((hag.ev y (by simp [Op.operands, Call.operands])).trans hy) (s_nil hL))) h

theorem d_orA {x y : Operand} {t t' : TypeId} {m n a p : Int} (i : Nat) (hlt : Nat.ble (d + 1) c.nt = true) (hx : St.ev ⟨fr, bx, tk⟩ x = aI m) (hy : St.ev ⟨fr, bx, tk⟩ y = aI n) (hp : (2 : Int) ^ i = p) (hm : m = a * p) (ha : 0 ≤ a) (h1 : a * p + p ≤ 9223372036854775807) (hn : 0 ≤ n) (h2 : n < p)
    (h : DR P c ops Q st0 (⟨some (d, aI (m + n)), [], [], [], [], [], []⟩ :: done) ⟨(d, aI (m + n)) :: fr, bx, tk⟩ rest) : DR P c ops Q st0 done ⟨fr, bx, tk⟩ (⟨some d, .binOp .or t x y t', ty, pos, aft, none⟩ :: rest) :=
  DR.cons (e := ⟨some (d, aI (m + n)), [], [], [], [], [], []⟩) (fun st' hag Q' hL => LW.out (s_orA (fr := st'.fr) (bx := st'.bx) (tk := st'.tk) i hlt ((hag.ev x (by simp [Op.operands, Call.operands])).trans hx) ((hag.ev y (by simp [Op.operands, Call.operands])).trans hy) hp hm ha h1 hn h2 (s_nil hL))) h

theorem d_shlA {x y : Operand} {t t' : TypeId} {k' : IntKind} {m n p : Int} (hlt : Nat.ble (d + 1) c.nt = true) (hx : St.ev ⟨fr, bx, tk⟩ x = aI m) (hy : St.ev ⟨fr, bx, tk⟩ y = .iv (.im (.int k' n))) (h0 : 0 ≤ n) (hp : (2 : Int) ^ min n.toNat 64 = p) (hlo : -9223372036854775808 ≤ m * p) (hhi : m * p ≤ 9223372036854775807)
    (h : DR P c ops Q st0 (⟨some (d, aI (m * p)), [], [], [], [], [], []⟩ :: done) ⟨(d, aI (m * p)) :: fr, bx, tk⟩ rest) : DR P c ops Q st0 done ⟨fr, bx, tk⟩ (⟨some d, .binOp .shl t x y t', ty, pos, aft, none⟩ :: rest) :=
  DR.cons (e := ⟨some (d, aI (m * p)), [], [], [], [], [], []⟩) (fun st' hag Q' hL => LW.out (s_shlA (fr := st'.fr) (bx := st'.bx) (tk := st'.tk) hlt ((hag.ev x (by simp [Op.operands, Call.operands])).trans hx) ((hag.ev y (by simp [Op.operands, Call.operands])).trans hy) h0 hp hlo hhi (s_nil hL))) h

theorem d_convU8 {x : Operand} {s t : TypeId} {k0 : IntKind} {b : UInt8} (hlt : Nat.ble (d + 1) c.nt = true) (hx : St.ev ⟨fr, bx, tk⟩ x = .iv (.im (.int .u8 (b.toNat : Int)))) [ht : IntTy P t .i64] [hs : IntTy P s k0]
    (h : DR P c ops Q st0 (⟨some (d, aI (b.toNat : Int)), [], [], [], [], [], []⟩ :: done) ⟨(d, aI (b.toNat : Int)) :: fr, bx, tk⟩ rest) : DR P c ops Q st0 done ⟨fr, bx, tk⟩ (⟨some d, .convert s t x, ty, pos, aft, none⟩ :: rest) :=
  DR.cons (e := ⟨some (d, aI (b.toNat : Int)), [], [], [], [], [], []⟩) (fun st' hag Q' hL => LW.out (s_convU8 (fr := st'.fr) (bx := st'.bx) (tk := st'.tk) hlt ((hag.ev x (by simp [Op.operands, Call.operands])).trans hx) (s_nil hL))) h

theorem d_quoI {x y : Operand} {t t' : TypeId} {m n : Int} (hlt : Nat.ble (d + 1) c.nt = true) (hx : St.ev ⟨fr, bx, tk⟩ x = aI m) (hy : St.ev ⟨fr, bx, tk⟩ y = aI n) (hn : 0 < n) (hlo : -9223372036854775808 ≤ m) (hhi : m ≤ 9223372036854775807)
    (h : DR P c ops Q st0 (⟨some (d, aI (m.tdiv n)), [], [], [], [], [], []⟩ :: done) ⟨(d, aI (m.tdiv n)) :: fr, bx, tk⟩ rest) : DR P c ops Q st0 done ⟨fr, bx, tk⟩ (⟨some d, .binOp .quo t x y t', ty, pos, aft, none⟩ :: rest) :=
  DR.cons (e := ⟨some (d, aI (m.tdiv n)), [], [], [], [], [], []⟩) (fun st' hag Q' hL => LW.out (s_quoI (fr := st'.fr) (bx := st'.bx) (tk := st'.tk) hlt ((hag.ev x (by simp [Op.operands, Call.operands])).trans hx) ((hag.ev y (by simp [Op.operands, Call.operands])).trans hy) hn hlo hhi (s_nil hL))) h

theorem d_remI {x y : Operand} {t t' : TypeId} {k : IntKind} {m n : Int} (hlt : Nat.ble (d + 1) c.nt = true) (hx : St.ev ⟨fr, bx, tk⟩ x = .iv (.im (.int k m))) (hy : St.ev ⟨fr, bx, tk⟩ y = .iv (.im (.int k n))) (hn : 0 < n)
    (h : DR P c ops Q st0 (⟨some (d, .iv (.im (.int k (m.tmod n)))), [], [], [], [], [], []⟩ :: done) ⟨(d, .iv (.im (.int k (m.tmod n)))) :: fr, bx, tk⟩ rest) : DR P c ops Q st0 done ⟨fr, bx, tk⟩ (⟨some d, .binOp .rem t x y t', ty, pos, aft, none⟩ :: rest) :=
  DR.cons (e := ⟨some (d, .iv (.im (.int k (m.tmod n)))), [], [], [], [], [], []⟩) (fun st' hag Q' hL => LW.out (s_remI (fr := st'.fr) (bx := st'.bx) (tk := st'.tk) hlt ((hag.ev x (by simp [Op.operands, Call.operands])).trans hx) ((hag.ev y (by simp [Op.operands, Call.operands])).trans hy) hn (s_nil hL))) h

theorem d_sliceSl {x y : Operand} {t : TypeId} {m m' : List UInt8} {k : IntKind} {n : Int} (hlt : Nat.ble (d + 1) c.nt = true) (hx : St.ev ⟨fr, bx, tk⟩ x = aS m) (hy : St.ev ⟨fr, bx, tk⟩ y = .iv (.im (.int k n))) [ht : StrTy P t] (h0 : 0 ≤ n) (h1 : n ≤ m.length) (hm : m.drop n.toNat = m')
    (h : DR P c ops Q st0 (⟨some (d, aS m'), [], [], [], [], [], []⟩ :: done) ⟨(d, aS m') :: fr, bx, tk⟩ rest) : DR P c ops Q st0 done ⟨fr, bx, tk⟩ (⟨some d, .slice t x (some y) none none, ty, pos, aft, none⟩ :: rest) :=
  DR.cons (e := ⟨some (d, aS m'), [], [], [], [], [], []⟩) (fun st' hag Q' hL => LW.out (s_sliceSl (fr := st'.fr) (bx := st'.bx) (tk := st'.tk) hlt ((hag.ev x (by simp [Op.operands, Call.operands])).trans hx) ((hag.ev y (by simp [Op.operands, Call.operands])).trans hy) h0 h1 hm (s_nil hL))) h

theorem d_sliceSh {x y : Operand} {t : TypeId} {m m' : List UInt8} {k : IntKind} {n : Int} (hlt : Nat.ble (d + 1) c.nt = true) (hx : St.ev ⟨fr, bx, tk⟩ x = aS m) (hy : St.ev ⟨fr, bx, tk⟩ y = .iv (.im (.int k n))) [ht : StrTy P t] (h0 : 0 ≤ n) (h1 : n ≤ m.length) (hm : m.take n.toNat = m')
    (h : DR P c ops Q st0 (⟨some (d, aS m'), [], [], [], [], [], []⟩ :: done) ⟨(d, aS m') :: fr, bx, tk⟩ rest) : DR P c ops Q st0 done ⟨fr, bx, tk⟩ (⟨some d, .slice t x none (some y) none, ty, pos, aft, none⟩ :: rest) :=
  DR.cons (e := ⟨some (d, aS m'), [], [], [], [], [], []⟩) (fun st' hag Q' hL => LW.out (s_sliceSh (fr := st'.fr) (bx := st'.bx) (tk := st'.tk) hlt ((hag.ev x (by simp [Op.operands, Call.operands])).trans hx) ((hag.ev y (by simp [Op.operands, Call.operands])).trans hy) h0 h1 hm (s_nil hL))) h

theorem d_sliceSlh {x y z : Operand} {t : TypeId} {m m' : List UInt8} {k k' : IntKind} {n j : Int} (hlt : Nat.ble (d + 1) c.nt = true) (hx : St.ev ⟨fr, bx, tk⟩ x = aS m) (hy : St.ev ⟨fr, bx, tk⟩ y = .iv (.im (.int k n))) (hz : St.ev ⟨fr, bx, tk⟩ z = .iv (.im (.int k' j))) [ht : StrTy P t] (h0 : 0 ≤ n) (h1 : n ≤ j) (h2 : j ≤ m.length) (hm : (m.drop n.toNat).take (j.toNat - n.toNat) = m')
    (h : DR P c ops Q st0 (⟨some (d, aS m'), [], [], [], [], [], []⟩ :: done) ⟨(d, aS m') :: fr, bx, tk⟩ rest) : DR P c ops Q st0 done ⟨fr, bx, tk⟩ (⟨some d, .slice t x (some y) (some z) none, ty, pos, aft, none⟩ :: rest) :=
  DR.cons (e := ⟨some (d, aS m'), [], [], [], [], [], []⟩) (fun st' hag Q' hL => LW.out (s_sliceSlh (fr := st'.fr) (bx := st'.bx) (tk := st'.tk) hlt ((hag.ev x (by simp [Op.operands, Call.operands])).trans hx) ((hag.ev y (by simp [Op.operands, Call.operands])).trans hy) ((hag.ev z (by simp [Op.operands, Call.operands])).trans hz) h0 h1 h2 hm (s_nil hL))) h

theorem d_sliceVl {x y : Operand} {t e : TypeId} {k : Nat} {es es' : List (List IV)} {kd : IntKind} {n : Int} (hlt : Nat.ble (d + 1) c.nt = true) (hx : (St.ev ⟨fr, bx, tk⟩ x).sl? = some es) (hy : St.ev ⟨fr, bx, tk⟩ y = .iv (.im (.int kd n))) [hs : SliceTy P t e k] (hk : ∀ e ∈ es, e.length = k) (h0 : 0 ≤ n) (h1 : n ≤ es.length) (hm : es.drop n.toNat = es')
    (h : DR P c ops Q st0 (⟨some (d, .iv (.sl es')), [], [], [], [], [], []⟩ :: done) ⟨(d, .iv (.sl es')) :: fr, bx, tk⟩ rest) : DR P c ops Q st0 done ⟨fr, bx, tk⟩ (⟨some d, .slice t x (some y) none none, ty, pos, aft, none⟩ :: rest) :=
  DR.cons (e := ⟨some (d, .iv (.sl es')), [], [], [], [], [], []⟩) (fun st' hag Q' hL => LW.out (s_sliceVl (fr := st'.fr) (bx := st'.bx) (tk := st'.tk) hlt ((congrArg AV.sl? (hag.ev x (by simp [Op.operands, Call.operands]))).trans hx) ((hag.ev y (by simp [Op.operands, Call.operands])).trans hy) hk h0 h1 hm (s_nil hL))) h

theorem d_sliceVh {x y : Operand} {t e : TypeId} {k : Nat} {es es' : List (List IV)} {kd : IntKind} {n : Int} (hlt : Nat.ble (d + 1) c.nt = true) (hx : (St.ev ⟨fr, bx, tk⟩ x).sl? = some es) (hy : St.ev ⟨fr, bx, tk⟩ y = .iv (.im (.int kd n))) [hs : SliceTy P t e k] (hk : ∀ e ∈ es, e.length = k) (h0 : 0 ≤ n) (h1 : n ≤ es.length) (hm : es.take n.toNat = es')
    (h : DR P c ops Q st0 (⟨some (d, .iv (.sl es')), [], [], [], [], [], []⟩ :: done) ⟨(d, .iv (.sl es')) :: fr, bx, tk⟩ rest) : DR P c ops Q st0 done ⟨fr, bx, tk⟩ (⟨some d, .slice t x none (some y) none, ty, pos, aft, none⟩ :: rest) :=
  DR.cons (e := ⟨some (d, .iv (.sl es')), [], [], [], [], [], []⟩) (fun st' hag Q' hL => LW.out (s_sliceVh (fr := st'.fr) (bx := st'.bx) (tk := st'.tk) hlt ((congrArg AV.sl? (hag.ev x (by simp [Op.operands, Call.operands]))).trans hx) ((hag.ev y (by simp [Op.operands, Call.operands])).trans hy) hk h0 h1 hm (s_nil hL))) h

theorem d_sliceVlh {x y z : Operand} {t e : TypeId} {k : Nat} {es es' : List (List IV)} {kd kd' : IntKind} {n j : Int} (hlt : Nat.ble (d + 1) c.nt = true) (hx : (St.ev ⟨fr, bx, tk⟩ x).sl? = some es) (hy : St.ev ⟨fr, bx, tk⟩ y = .iv (.im (.int kd n))) (hz : St.ev ⟨fr, bx, tk⟩ z = .iv (.im (.int kd' j))) [hs : SliceTy P t e k] (hk : ∀ e ∈ es, e.length = k) (h0 : 0 ≤ n) (h1 : n ≤ j) (h2 : j ≤ es.length) (hm : (es.take j.toNat).drop n.toNat = es')
    (h : DR P c ops Q st0 (⟨some (d, .iv (.sl es')), [], [], [], [], [], []⟩ :: done) ⟨(d, .iv (.sl es')) :: fr, bx, tk⟩ rest) : DR P c ops Q st0 done ⟨fr, bx, tk⟩ (⟨some d, .slice t x (some y) (some z) none, ty, pos, aft, none⟩ :: rest) :=
  DR.cons (e := ⟨some (d, .iv (.sl es')), [], [], [], [], [], []⟩) (fun st' hag Q' hL => LW.out (s_sliceVlh (fr := st'.fr) (bx := st'.bx) (tk := st'.tk) hlt ((congrArg AV.sl? (hag.ev x (by simp [Op.operands, Call.operands]))).trans hx) ((hag.ev y (by simp [Op.operands, Call.operands])).trans hy) ((hag.ev z (by simp [Op.operands, Call.operands])).trans hz) hk h0 h1 h2 hm (s_nil hL))) h

theorem d_bytesS {x : Operand} {s t e : TypeId} {bs : List UInt8} (hlt : Nat.ble (d + 1) c.nt = true) (hx : (St.ev ⟨fr, bx, tk⟩ x).sl? = some (bs.map cB)) [hs : SliceTy P s e 1] [he : IntTy P e .u8] [ht : StrTy P t]
    (h : DR P c ops Q st0 (⟨some (d, aS bs), [], [], [], [], [], []⟩ :: done) ⟨(d, aS bs) :: fr, bx, tk⟩ rest) : DR P c ops Q st0 done ⟨fr, bx, tk⟩ (⟨some d, .convert s t x, ty, pos, aft, none⟩ :: rest) :=
  DR.cons (e := ⟨some (d, aS bs), [], [], [], [], [], []⟩) (fun st' hag Q' hL => LW.out (s_bytesS (fr := st'.fr) (bx := st'.bx) (tk := st'.tk) hlt ((congrArg AV.sl? (hag.ev x (by simp [Op.operands, Call.operands]))).trans hx) (s_nil hL))) h

theorem d_box {t : TypeId} {x : Operand} {v : AV} {cs : List AV} (hlt : Nat.ble (d + 1) c.nt = true) (hx : St.ev ⟨fr, bx, tk⟩ x = v) (hv : v.lays = true) (hc : v.cells = cs) (hf : St.fresh d ⟨fr, bx, tk⟩ = true) (hm : AV.ments d cs = false)
    (h : DR P c ops Q st0 (⟨some (d, .ptr d 0), [(d, ⟨t, cs⟩)], [], [], [], [], [d]⟩ :: done) ⟨(d, .ptr d 0) :: fr, (d, ⟨t, cs⟩) :: bx, tk⟩ rest) : DR P c ops Q st0 done ⟨fr, bx, tk⟩ (⟨some d, .box t x, ty, pos, aft, none⟩ :: rest) :=
  DR.cons (e := ⟨some (d, .ptr d 0), [(d, ⟨t, cs⟩)], [], [], [], [], [d]⟩) (fun st' hag Q' hL => LW.out (s_box (fr := st'.fr) (bx := st'.bx) (tk := st'.tk) hlt ((hag.ev x (by simp [Op.operands, Call.operands])).trans hx) hv hc (hag.fs d (by simp)) hm (s_nil hL))) h

theorem d_strBytes {s t e : TypeId} {x : Operand} {bs : List UInt8} (hlt : Nat.ble (d + 1) c.nt = true) (hx : St.ev ⟨fr, bx, tk⟩ x = aS bs) [hs : StrTy P s] [ht : SliceTy P t e 1] [he : IntTy P e .u8] (hf : St.fresh d ⟨fr, bx, tk⟩ = true) (hl : bs.length ≤ 9223372036854775807)
    (h : DR P c ops Q st0 (⟨some (d, .iv (.sl (bs.map cB))), [], [], [], [], [], [d]⟩ :: done) ⟨(d, .iv (.sl (bs.map cB))) :: fr, bx, tk⟩ rest) : DR P c ops Q st0 done ⟨fr, bx, tk⟩ (⟨some d, .convert s t x, ty, pos, aft, none⟩ :: rest) :=
  DR.cons (e := ⟨some (d, .iv (.sl (bs.map cB))), [], [], [], [], [], [d]⟩) (fun st' hag Q' hL => LW.out (s_strBytes (fr := st'.fr) (bx := st'.bx) (tk := st'.tk) hlt ((hag.ev x (by simp [Op.operands, Call.operands])).trans hx) (hag.fs d (by simp)) hl (s_nil hL))) h

theorem d_idxB {f : FuncId} {x y : Operand} {ats : Array TypeId} {m : List UInt8} {n : Int} (hlt : Nat.ble (d + 1) c.nt = true) [hok : IdxTy P f] (hx : St.ev ⟨fr, bx, tk⟩ x = aS m) (hy : St.ev ⟨fr, bx, tk⟩ y = .iv (.im (.int .u8 n)))
    (h : DR P c ops Q st0 (⟨some (d, aI (Lib.indexByte m n.toNat.toUInt8)), [], [], [], [], [], []⟩ :: done) ⟨(d, aI (Lib.indexByte m n.toNat.toUInt8)) :: fr, bx, tk⟩ rest) : DR P c ops Q st0 done ⟨fr, bx, tk⟩ (⟨some d, .call { callee := .value (.func f), args := #[x, y], argTypes := ats }, ty, pos, aft, none⟩ :: rest) :=
  DR.cons (e := ⟨some (d, aI (Lib.indexByte m n.toNat.toUInt8)), [], [], [], [], [], []⟩) (fun st' hag Q' hL => LW.out (s_idxB (fr := st'.fr) (bx := st'.bx) (tk := st'.tk) hlt ((hag.ev x (by simp [Op.operands, Call.operands])).trans hx) ((hag.ev y (by simp [Op.operands, Call.operands])).trans hy) (s_nil hL))) h

theorem d_and1 {x y : Operand} {t t' : TypeId} {m : Int} (hlt : Nat.ble (d + 1) c.nt = true) (hx : St.ev ⟨fr, bx, tk⟩ x = aI m) (hy : St.ev ⟨fr, bx, tk⟩ y = aI 1)
    (h : DR P c ops Q st0 (⟨some (d, aI (m % 2)), [], [], [], [], [], []⟩ :: done) ⟨(d, aI (m % 2)) :: fr, bx, tk⟩ rest) : DR P c ops Q st0 done ⟨fr, bx, tk⟩ (⟨some d, .binOp .and t x y t', ty, pos, aft, none⟩ :: rest) :=
  DR.cons (e := ⟨some (d, aI (m % 2)), [], [], [], [], [], []⟩) (fun st' hag Q' hL => LW.out (s_and1 (fr := st'.fr) (bx := st'.bx) (tk := st'.tk) hlt ((hag.ev x (by simp [Op.operands, Call.operands])).trans hx) ((hag.ev y (by simp [Op.operands, Call.operands])).trans hy) (s_nil hL))) h

theorem d_min2 {x y : Operand} {t t' : TypeId} {m n : Int} (hlt : Nat.ble (d + 1) c.nt = true) (hx : St.ev ⟨fr, bx, tk⟩ x = aI m) (hy : St.ev ⟨fr, bx, tk⟩ y = aI n)
    (h : DR P c ops Q st0 (⟨some (d, aI (if n < m then n else m)), [], [], [], [], [], []⟩ :: done) ⟨(d, aI (if n < m then n else m)) :: fr, bx, tk⟩ rest) : DR P c ops Q st0 done ⟨fr, bx, tk⟩ (⟨some d, .call { callee := .builtin .min, args := #[x, y], argTypes := #[t, t'] }, ty, pos, aft, none⟩ :: rest) :=
  DR.cons (e := ⟨some (d, aI (if n < m then n else m)), [], [], [], [], [], []⟩) (fun st' hag Q' hL => LW.out (s_min2 (fr := st'.fr) (bx := st'.bx) (tk := st'.tk) hlt ((hag.ev x (by simp [Op.operands, Call.operands])).trans hx) ((hag.ev y (by simp [Op.operands, Call.operands])).trans hy) (s_nil hL))) h

theorem d_indexG {g : Nat} {t e : TypeId} {ln : Nat} {i : Operand} {kd : IntKind} {n : Int} {v : Value} {vs : List Value} (hlt : Nat.ble (d + 1) c.nt = true) [hs : ArrTy P t e ln] (hG : Glob g vs c.E0 c.w0) (hln : ln = vs.length) (hn : St.ev ⟨fr, bx, tk⟩ i = .iv (.im (.int kd n))) (h0 : 0 ≤ n) (hv : vs[n.toNat]? = some v)
    (h : DR P c ops Q st0 (⟨some (d, .el [.im v]), [], [], [], [], [], []⟩ :: done) ⟨(d, .el [.im v]) :: fr, bx, tk⟩ rest) : DR P c ops Q st0 done ⟨fr, bx, tk⟩ (⟨some d, .indexAddr t (.global g) i, ty, pos, aft, none⟩ :: rest) :=
  DR.cons (e := ⟨some (d, .el [.im v]), [], [], [], [], [], []⟩) (fun st' hag Q' hL => LW.out (s_indexG (fr := st'.fr) (bx := st'.bx) (tk := st'.tk) hlt hG hln ((hag.ev i (by simp [Op.operands, Call.operands])).trans hn) h0 hv (s_nil hL))) h

theorem d_callG {g : Nat} {vs : List Value} {f : FuncId} {args : Array Operand} {ats : Array TypeId} {as : List AV} {res : AV} (hlt : Nat.ble (d + 1) c.nt = true) [hok : CallTy P f] (hG : Glob g vs c.E0 c.w0) (hc : CallG g vs P f as [] [] [] res) (ha : AV.pub.pubs (args.toList.map (St.ev ⟨fr, bx, tk⟩)) = as) (hmr : AV.mentIn [] res = true)
    (h : DR P c ops Q st0 (⟨some (d, res), [], [], [], [], [], []⟩ :: done) ⟨(d, res) :: fr, bx, tk⟩ rest) : DR P c ops Q st0 done ⟨fr, bx, tk⟩ (⟨some d, .call { callee := .value (.func f), args := args, argTypes := ats }, ty, pos, aft, none⟩ :: rest) :=
  DR.cons (e := ⟨some (d, res), [], [], [], [], [], []⟩) (fun st' hag Q' hL => LW.out (s_callG (fr := st'.fr) (bx := st'.bx) (tk := st'.tk) hlt hG hc ((by rw [agL hag (fun x hx => by simp [Op.operands, Call.operands, hx])]; exact ha)) hmr (s_nil hL))) h

theorem d_fieldV {s : TypeId} {x : Operand} {f fo : Nat} {cs : List AV} {v : AV} (hlt : Nat.ble (d + 1) c.nt = true) (hx : St.ev ⟨fr, bx, tk⟩ x = .agg cs) [hf : FldTy P s f fo] (hv : cs[fo]? = some v)
    (h : DR P c ops Q st0 (⟨some (d, v), [], [], [], [], [], []⟩ :: done) ⟨(d, v) :: fr, bx, tk⟩ rest) : DR P c ops Q st0 done ⟨fr, bx, tk⟩ (⟨some d, .field s x f, ty, pos, aft, none⟩ :: rest) :=
  DR.cons (e := ⟨some (d, v), [], [], [], [], [], []⟩) (fun st' hag Q' hL => LW.out (s_fieldV (fr := st'.fr) (bx := st'.bx) (tk := st'.tk) hlt ((hag.ev x (by simp [Op.operands, Call.operands])).trans hx) hv (s_nil hL))) h

theorem d_max2 {x y : Operand} {t t' : TypeId} {m n : Int} (hlt : Nat.ble (d + 1) c.nt = true) (hx : St.ev ⟨fr, bx, tk⟩ x = aI m) (hy : St.ev ⟨fr, bx, tk⟩ y = aI n)
    (h : DR P c ops Q st0 (⟨some (d, aI (if n > m then n else m)), [], [], [], [], [], []⟩ :: done) ⟨(d, aI (if n > m then n else m)) :: fr, bx, tk⟩ rest) : DR P c ops Q st0 done ⟨fr, bx, tk⟩ (⟨some d, .call { callee := .builtin .max, args := #[x, y], argTypes := #[t, t'] }, ty, pos, aft, none⟩ :: rest) :=
  DR.cons (e := ⟨some (d, aI (if n > m then n else m)), [], [], [], [], [], []⟩) (fun st' hag Q' hL => LW.out (s_max2 (fr := st'.fr) (bx := st'.bx) (tk := st'.tk) hlt ((hag.ev x (by simp [Op.operands, Call.operands])).trans hx) ((hag.ev y (by simp [Op.operands, Call.operands])).trans hy) (s_nil hL))) h

theorem d_alloc {t : TypeId} {zs : List Value} {cs : List AV} (hlt : Nat.ble (d + 1) c.nt = true) [hz : ZeroTy P t zs] (h1 : zs.all (·.oneCell') = true) (hc : zs.map constCell = cs) (hf : St.fresh d ⟨fr, bx, tk⟩ = true) (hm : AV.ments d cs = false)
    (h : DR P c ops Q st0 (⟨some (d, .ptr d 0), [(d, ⟨t, cs⟩)], [], [], [], [], [d]⟩ :: done) ⟨(d, .ptr d 0) :: fr, (d, ⟨t, cs⟩) :: bx, tk⟩ rest) : DR P c ops Q st0 done ⟨fr, bx, tk⟩ (⟨some d, .alloc t, ty, pos, aft, none⟩ :: rest) :=
  DR.cons (e := ⟨some (d, .ptr d 0), [(d, ⟨t, cs⟩)], [], [], [], [], [d]⟩) (fun st' hag Q' hL => LW.out (s_alloc (fr := st'.fr) (bx := st'.bx) (tk := st'.tk) hlt h1 hc (hag.fs d (by simp)) hm (s_nil hL))) h

theorem d_bslice {t e : TypeId} {n k : Nat} {parts : Array (Nat × Operand)} {zs : List Value} {cs : List AV} {xs : List IV} {es : List (List IV)} (hlt : Nat.ble (d + 1) c.nt = true) [hs : SliceTy P t e k] [hz : ZeroTy P e zs] (h1 : zs.all (·.oneCell') = true) (hzl : zs.length = k) (hn : Nat.ble (n * k) 16777216 = true) (hnk : Nat.ble 1 k = true) (hf : fillA (fun i => some (i * k, k)) ((List.range (n * k)).map fun i => constCell (zs.getD (i % k) undef)) (parts.toList.map fun x => (x.1, St.ev ⟨fr, bx, tk⟩ x.2)) = some cs) (hx : toIs cs = some xs) (hcl : cs.length = n * k) (he : chunks k n xs = es) (hfr : St.fresh d ⟨fr, bx, tk⟩ = true)
    (h : DR P c ops Q st0 (⟨some (d, .row d es), [], [(d, ⟨e, k⟩)], [], [], [], [d]⟩ :: done) ⟨(d, .row d es) :: fr, bx, (d, ⟨e, k⟩) :: tk⟩ rest) : DR P c ops Q st0 done ⟨fr, bx, tk⟩ (⟨some d, .buildSlice t n parts, ty, pos, aft, none⟩ :: rest) :=
  DR.cons (e := ⟨some (d, .row d es), [], [(d, ⟨e, k⟩)], [], [], [], [d]⟩) (fun st' hag Q' hL => LW.out (s_bslice (fr := st'.fr) (bx := st'.bx) (tk := st'.tk) hlt h1 hzl hn hnk ((by rw [agP hag (fun x hx => by simp only [Op.operands]; exact List.mem_toArray.2 (List.mem_map.2 ⟨x, by simpa using hx, rfl⟩))]; exact hf)) hx hcl he (hag.fs d (by simp)) (s_nil hL))) h

theorem d_store {t : TypeId} {x y : Operand} {id off k : Nat} {b : Box} {v : AV} {agg : Bool} {cs : List AV} (hx : St.ev ⟨fr, bx, tk⟩ x = .ptr id off) (hy : St.ev ⟨fr, bx, tk⟩ y = v) [ht : VarTy P t agg k] (hb : bx.lookup id = some b) (hv : v.lays = true) (hk : v.cells.length = k) (hle : Nat.ble (off + k) b.cs.length = true) (hc : setA b.cs off v.cells = cs)
    (h : DR P c ops Q st0 (⟨none, [(id, ⟨b.ty, cs⟩)], [], [], [id], [], []⟩ :: done) ⟨fr, (id, ⟨b.ty, cs⟩) :: bx, tk⟩ rest) : DR P c ops Q st0 done ⟨fr, bx, tk⟩ (⟨none, .store t x y, ty, pos, aft, none⟩ :: rest) :=
  DR.cons (e := ⟨none, [(id, ⟨b.ty, cs⟩)], [], [], [id], [], []⟩) (fun st' hag Q' hL => LW.out (s_store (fr := st'.fr) (bx := st'.bx) (tk := st'.tk) ((hag.ev x (by simp [Op.operands, Call.operands])).trans hx) ((hag.ev y (by simp [Op.operands, Call.operands])).trans hy) ((hag.bx id (by simp)).trans hb) hv hk hle hc (s_nil hL))) h

theorem d_append {t t' e : TypeId} {x y : Operand} {id k bytes : Nat} {es news es' : List (List IV)} (hlt : Nat.ble (d + 1) c.nt = true) (hx : St.ev ⟨fr, bx, tk⟩ x = .row id es) (htk : tk.lookup id = some ⟨e, k⟩) (hy : (St.ev ⟨fr, bx, tk⟩ y).sl? = some news) [ha : AppTy P t e k bytes] [hs : SliceTy P t' e k] (hes : ∀ e ∈ es, e.length = k) (hnk : ∀ e ∈ news, e.length = k) (hm : es.length + news.length ≤ maxLen) (hby : (es.length + news.length) * bytes ≤ 140737488355328) (hf : St.fresh d ⟨fr, bx, tk⟩ = true) (he : es ++ news = es')
    (h : DR P c ops Q st0 (⟨some (d, .row d es'), [], [(d, ⟨e, k⟩)], [id], [], [id], [d]⟩ :: done) ⟨(d, .row d es') :: fr, bx, (d, ⟨e, k⟩) :: delT [id] tk⟩ rest) : DR P c ops Q st0 done ⟨fr, bx, tk⟩ (⟨some d, .call { callee := .builtin .append, args := #[x, y], argTypes := #[t, t'] }, ty, pos, aft, none⟩ :: rest) :=
  DR.cons (e := ⟨some (d, .row d es'), [], [(d, ⟨e, k⟩)], [id], [], [id], [d]⟩) (fun st' hag Q' hL => LW.out (s_append (fr := st'.fr) (bx := st'.bx) (tk := st'.tk) hlt ((hag.ev x (by simp [Op.operands, Call.operands])).trans hx) ((hag.tk id (by simp)).trans htk) ((congrArg AV.sl? (hag.ev y (by simp [Op.operands, Call.operands]))).trans hy) hes hnk hm hby (hag.fs d (by simp)) he (s_nil hL))) h

theorem d_appendNil {t t' e : TypeId} {x y : Operand} {k bytes : Nat} {news : List (List IV)} (hlt : Nat.ble (d + 1) c.nt = true) (hx : St.ev ⟨fr, bx, tk⟩ x = .nils) (hy : (St.ev ⟨fr, bx, tk⟩ y).sl? = some news) [ha : AppTy P t e k bytes] [hs : SliceTy P t' e k] (hnk : ∀ e ∈ news, e.length = k) (hm : news.length ≤ maxLen) (hby : news.length * bytes ≤ 140737488355328) (hf : St.fresh d ⟨fr, bx, tk⟩ = true)
    (h : DR P c ops Q st0 (⟨some (d, .row d news), [], [(d, ⟨e, k⟩)], [d], [], [], [d]⟩ :: done) ⟨(d, .row d news) :: fr, bx, (d, ⟨e, k⟩) :: delT [d] tk⟩ rest) : DR P c ops Q st0 done ⟨fr, bx, tk⟩ (⟨some d, .call { callee := .builtin .append, args := #[x, y], argTypes := #[t, t'] }, ty, pos, aft, none⟩ :: rest) :=
  DR.cons (e := ⟨some (d, .row d news), [], [(d, ⟨e, k⟩)], [d], [], [], [d]⟩) (fun st' hag Q' hL => LW.out (s_appendNil (fr := st'.fr) (bx := st'.bx) (tk := st'.tk) hlt ((hag.ev x (by simp [Op.operands, Call.operands])).trans hx) ((congrArg AV.sl? (hag.ev y (by simp [Op.operands, Call.operands]))).trans hy) hnk hm hby (hag.fs d (by simp)) (s_nil hL))) h

theorem d_appendS {t t' e : TypeId} {x y : Operand} {id bytes : Nat} {es es' : List (List IV)} {s : List UInt8} (hlt : Nat.ble (d + 1) c.nt = true) (hx : St.ev ⟨fr, bx, tk⟩ x = .row id es) (htk : tk.lookup id = some ⟨e, 1⟩) (hy : St.ev ⟨fr, bx, tk⟩ y = aS s) [ha : AppTy P t e 1 bytes] [hs : StrTy P t'] (hes : ∀ e ∈ es, e.length = 1) (hm : es.length + s.length ≤ maxLen) (hby : (es.length + s.length) * bytes ≤ 140737488355328) (hf : St.fresh d ⟨fr, bx, tk⟩ = true) (he : (es ++ s.map fun b => [IV.im (.int .u8 b.toNat)]) = es')
    (h : DR P c ops Q st0 (⟨some (d, .row d es'), [], [(d, ⟨e, 1⟩)], [id], [], [id], [d]⟩ :: done) ⟨(d, .row d es') :: fr, bx, (d, ⟨e, 1⟩) :: delT [id] tk⟩ rest) : DR P c ops Q st0 done ⟨fr, bx, tk⟩ (⟨some d, .call { callee := .builtin .append, args := #[x, y], argTypes := #[t, t'] }, ty, pos, aft, none⟩ :: rest) :=
  DR.cons (e := ⟨some (d, .row d es'), [], [(d, ⟨e, 1⟩)], [id], [], [id], [d]⟩) (fun st' hag Q' hL => LW.out (s_appendS (fr := st'.fr) (bx := st'.bx) (tk := st'.tk) hlt ((hag.ev x (by simp [Op.operands, Call.operands])).trans hx) ((hag.tk id (by simp)).trans htk) ((hag.ev y (by simp [Op.operands, Call.operands])).trans hy) hes hm hby (hag.fs d (by simp)) he (s_nil hL))) h

theorem d_call0 {f : FuncId} {args : Array Operand} {ats : Array TypeId} {as : List AV} {res : AV} (hlt : Nat.ble (d + 1) c.nt = true) [hok : CallTy P f] (hc : CallA P f as [] [] [] res) (ha : AV.pub.pubs (args.toList.map (St.ev ⟨fr, bx, tk⟩)) = as) (hmr : AV.mentIn [] res = true)
    (h : DR P c ops Q st0 (⟨some (d, res), [], [], [], [], [], []⟩ :: done) ⟨(d, res) :: fr, bx, tk⟩ rest) : DR P c ops Q st0 done ⟨fr, bx, tk⟩ (⟨some d, .call { callee := .value (.func f), args := args, argTypes := ats }, ty, pos, aft, none⟩ :: rest) :=
  DR.cons (e := ⟨some (d, res), [], [], [], [], [], []⟩) (fun st' hag Q' hL => LW.out (s_call0 (fr := st'.fr) (bx := st'.bx) (tk := st'.tk) hlt hc ((by rw [agL hag (fun x hx => by simp [Op.operands, Call.operands, hx])]; exact ha)) hmr (s_nil hL))) h

theorem d_callRow {f : FuncId} {args : Array Operand} {ats : Array TypeId} {as : List AV} {t : Tok} {es : List (List IV)} (hlt : Nat.ble (d + 1) c.nt = true) [hok : CallTy P f] (hc : CallA P f as [] [] [(d, t)] (.row d es)) (ha : AV.pub.pubs (args.toList.map (St.ev ⟨fr, bx, tk⟩)) = as) (hf : St.fresh d ⟨fr, bx, tk⟩ = true)
    (h : DR P c ops Q st0 (⟨some (d, .row d es), [], [(d, t)], [], [], [], [d]⟩ :: done) ⟨(d, .row d es) :: fr, bx, (d, t) :: tk⟩ rest) : DR P c ops Q st0 done ⟨fr, bx, tk⟩ (⟨some d, .call { callee := .value (.func f), args := args, argTypes := ats }, ty, pos, aft, none⟩ :: rest) :=
  DR.cons (e := ⟨some (d, .row d es), [], [(d, t)], [], [], [], [d]⟩) (fun st' hag Q' hL => LW.out (s_callRow (fr := st'.fr) (bx := st'.bx) (tk := st'.tk) hlt hc ((by rw [agL hag (fun x hx => by simp [Op.operands, Call.operands, hx])]; exact ha)) (hag.fs d (by simp)) (s_nil hL))) h

theorem d_pickTIv {x y z : Operand} {y1 : IV} {b : Bool} (hlt : Nat.ble (d + 1) c.nt = true) (hx : St.ev ⟨fr, bx, tk⟩ x = aB b) (hb : b = true) (hy : St.ev ⟨fr, bx, tk⟩ y = .iv y1)
    (h : DR P c ops Q st0 (⟨some (d, .iv y1), [], [], [], [], [], []⟩ :: done) ⟨(d, .iv y1) :: fr, bx, tk⟩ rest) : DR P c ops Q st0 done ⟨fr, bx, tk⟩ (⟨some d, .pick x y z, ty, pos, aft, none⟩ :: rest) :=
  DR.cons (e := ⟨some (d, .iv y1), [], [], [], [], [], []⟩) (fun st' hag Q' hL => LW.out (s_pickTIv (fr := st'.fr) (bx := st'.bx) (tk := st'.tk) hlt ((hag.ev x (by simp [Op.operands, Call.operands])).trans hx) hb ((hag.ev y (by simp [Op.operands, Call.operands])).trans hy) (s_nil hL))) h

theorem d_pickFIv {x y z : Operand} {y1 : IV} {b : Bool} (hlt : Nat.ble (d + 1) c.nt = true) (hx : St.ev ⟨fr, bx, tk⟩ x = aB b) (hb : b = false) (hy : St.ev ⟨fr, bx, tk⟩ z = .iv y1)
    (h : DR P c ops Q st0 (⟨some (d, .iv y1), [], [], [], [], [], []⟩ :: done) ⟨(d, .iv y1) :: fr, bx, tk⟩ rest) : DR P c ops Q st0 done ⟨fr, bx, tk⟩ (⟨some d, .pick x y z, ty, pos, aft, none⟩ :: rest) :=
  DR.cons (e := ⟨some (d, .iv y1), [], [], [], [], [], []⟩) (fun st' hag Q' hL => LW.out (s_pickFIv (fr := st'.fr) (bx := st'.bx) (tk := st'.tk) hlt ((hag.ev x (by simp [Op.operands, Call.operands])).trans hx) hb ((hag.ev z (by simp [Op.operands, Call.operands])).trans hy) (s_nil hL))) h

theorem d_pickTRow {x y z : Operand} {id : Nat} {es : List (List IV)} {b : Bool} (hlt : Nat.ble (d + 1) c.nt = true) (hx : St.ev ⟨fr, bx, tk⟩ x = aB b) (hb : b = true) (hy : St.ev ⟨fr, bx, tk⟩ y = .row id es)
    (h : DR P c ops Q st0 (⟨some (d, .row id es), [], [], [], [], [], []⟩ :: done) ⟨(d, .row id es) :: fr, bx, tk⟩ rest) : DR P c ops Q st0 done ⟨fr, bx, tk⟩ (⟨some d, .pick x y z, ty, pos, aft, none⟩ :: rest) :=
  DR.cons (e := ⟨some (d, .row id es), [], [], [], [], [], []⟩) (fun st' hag Q' hL => LW.out (s_pickTRow (fr := st'.fr) (bx := st'.bx) (tk := st'.tk) hlt ((hag.ev x (by simp [Op.operands, Call.operands])).trans hx) hb ((hag.ev y (by simp [Op.operands, Call.operands])).trans hy) (s_nil hL))) h

theorem d_pickFRow {x y z : Operand} {id : Nat} {es : List (List IV)} {b : Bool} (hlt : Nat.ble (d + 1) c.nt = true) (hx : St.ev ⟨fr, bx, tk⟩ x = aB b) (hb : b = false) (hy : St.ev ⟨fr, bx, tk⟩ z = .row id es)
    (h : DR P c ops Q st0 (⟨some (d, .row id es), [], [], [], [], [], []⟩ :: done) ⟨(d, .row id es) :: fr, bx, tk⟩ rest) : DR P c ops Q st0 done ⟨fr, bx, tk⟩ (⟨some d, .pick x y z, ty, pos, aft, none⟩ :: rest) :=
  DR.cons (e := ⟨some (d, .row id es), [], [], [], [], [], []⟩) (fun st' hag Q' hL => LW.out (s_pickFRow (fr := st'.fr) (bx := st'.bx) (tk := st'.tk) hlt ((hag.ev x (by simp [Op.operands, Call.operands])).trans hx) hb ((hag.ev z (by simp [Op.operands, Call.operands])).trans hy) (s_nil hL))) h

theorem d_pickTPtr {x y z : Operand} {id off : Nat} {b : Bool} (hlt : Nat.ble (d + 1) c.nt = true) (hx : St.ev ⟨fr, bx, tk⟩ x = aB b) (hb : b = true) (hy : St.ev ⟨fr, bx, tk⟩ y = .ptr id off)
    (h : DR P c ops Q st0 (⟨some (d, .ptr id off), [], [], [], [], [], []⟩ :: done) ⟨(d, .ptr id off) :: fr, bx, tk⟩ rest) : DR P c ops Q st0 done ⟨fr, bx, tk⟩ (⟨some d, .pick x y z, ty, pos, aft, none⟩ :: rest) :=
  DR.cons (e := ⟨some (d, .ptr id off), [], [], [], [], [], []⟩) (fun st' hag Q' hL => LW.out (s_pickTPtr (fr := st'.fr) (bx := st'.bx) (tk := st'.tk) hlt ((hag.ev x (by simp [Op.operands, Call.operands])).trans hx) hb ((hag.ev y (by simp [Op.operands, Call.operands])).trans hy) (s_nil hL))) h

theorem d_pickFPtr {x y z : Operand} {id off : Nat} {b : Bool} (hlt : Nat.ble (d + 1) c.nt = true) (hx : St.ev ⟨fr, bx, tk⟩ x = aB b) (hb : b = false) (hy : St.ev ⟨fr, bx, tk⟩ z = .ptr id off)
    (h : DR P c ops Q st0 (⟨some (d, .ptr id off), [], [], [], [], [], []⟩ :: done) ⟨(d, .ptr id off) :: fr, bx, tk⟩ rest) : DR P c ops Q st0 done ⟨fr, bx, tk⟩ (⟨some d, .pick x y z, ty, pos, aft, none⟩ :: rest) :=
  DR.cons (e := ⟨some (d, .ptr id off), [], [], [], [], [], []⟩) (fun st' hag Q' hL => LW.out (s_pickFPtr (fr := st'.fr) (bx := st'.bx) (tk := st'.tk) hlt ((hag.ev x (by simp [Op.operands, Call.operands])).trans hx) hb ((hag.ev z (by simp [Op.operands, Call.operands])).trans hy) (s_nil hL))) h

theorem d_pickTAgg {x y z : Operand} {cs : List AV} {b : Bool} (hlt : Nat.ble (d + 1) c.nt = true) (hx : St.ev ⟨fr, bx, tk⟩ x = aB b) (hb : b = true) (hy : St.ev ⟨fr, bx, tk⟩ y = .agg cs)
    (h : DR P c ops Q st0 (⟨some (d, .agg cs), [], [], [], [], [], []⟩ :: done) ⟨(d, .agg cs) :: fr, bx, tk⟩ rest) : DR P c ops Q st0 done ⟨fr, bx, tk⟩ (⟨some d, .pick x y z, ty, pos, aft, none⟩ :: rest) :=
  DR.cons (e := ⟨some (d, .agg cs), [], [], [], [], [], []⟩) (fun st' hag Q' hL => LW.out (s_pickTAgg (fr := st'.fr) (bx := st'.bx) (tk := st'.tk) hlt ((hag.ev x (by simp [Op.operands, Call.operands])).trans hx) hb ((hag.ev y (by simp [Op.operands, Call.operands])).trans hy) (s_nil hL))) h

theorem d_pickFAgg {x y z : Operand} {cs : List AV} {b : Bool} (hlt : Nat.ble (d + 1) c.nt = true) (hx : St.ev ⟨fr, bx, tk⟩ x = aB b) (hb : b = false) (hy : St.ev ⟨fr, bx, tk⟩ z = .agg cs)
    (h : DR P c ops Q st0 (⟨some (d, .agg cs), [], [], [], [], [], []⟩ :: done) ⟨(d, .agg cs) :: fr, bx, tk⟩ rest) : DR P c ops Q st0 done ⟨fr, bx, tk⟩ (⟨some d, .pick x y z, ty, pos, aft, none⟩ :: rest) :=
  DR.cons (e := ⟨some (d, .agg cs), [], [], [], [], [], []⟩) (fun st' hag Q' hL => LW.out (s_pickFAgg (fr := st'.fr) (bx := st'.bx) (tk := st'.tk) hlt ((hag.ev x (by simp [Op.operands, Call.operands])).trans hx) hb ((hag.ev z (by simp [Op.operands, Call.operands])).trans hy) (s_nil hL))) h

theorem d_pickTEl {x y z : Operand} {cs : List IV} {b : Bool} (hlt : Nat.ble (d + 1) c.nt = true) (hx : St.ev ⟨fr, bx, tk⟩ x = aB b) (hb : b = true) (hy : St.ev ⟨fr, bx, tk⟩ y = .el cs)
    (h : DR P c ops Q st0 (⟨some (d, .el cs), [], [], [], [], [], []⟩ :: done) ⟨(d, .el cs) :: fr, bx, tk⟩ rest) : DR P c ops Q st0 done ⟨fr, bx, tk⟩ (⟨some d, .pick x y z, ty, pos, aft, none⟩ :: rest) :=
  DR.cons (e := ⟨some (d, .el cs), [], [], [], [], [], []⟩) (fun st' hag Q' hL => LW.out (s_pickTEl (fr := st'.fr) (bx := st'.bx) (tk := st'.tk) hlt ((hag.ev x (by simp [Op.operands, Call.operands])).trans hx) hb ((hag.ev y (by simp [Op.operands, Call.operands])).trans hy) (s_nil hL))) h

theorem d_pickFEl {x y z : Operand} {cs : List IV} {b : Bool} (hlt : Nat.ble (d + 1) c.nt = true) (hx : St.ev ⟨fr, bx, tk⟩ x = aB b) (hb : b = false) (hy : St.ev ⟨fr, bx, tk⟩ z = .el cs)
    (h : DR P c ops Q st0 (⟨some (d, .el cs), [], [], [], [], [], []⟩ :: done) ⟨(d, .el cs) :: fr, bx, tk⟩ rest) : DR P c ops Q st0 done ⟨fr, bx, tk⟩ (⟨some d, .pick x y z, ty, pos, aft, none⟩ :: rest) :=
  DR.cons (e := ⟨some (d, .el cs), [], [], [], [], [], []⟩) (fun st' hag Q' hL => LW.out (s_pickFEl (fr := st'.fr) (bx := st'.bx) (tk := st'.tk) hlt ((hag.ev x (by simp [Op.operands, Call.operands])).trans hx) hb ((hag.ev z (by simp [Op.operands, Call.operands])).trans hy) (s_nil hL))) h

theorem d_pickTNil {x y z : Operand} {b : Bool} (hlt : Nat.ble (d + 1) c.nt = true) (hx : St.ev ⟨fr, bx, tk⟩ x = aB b) (hb : b = true) (hy : St.ev ⟨fr, bx, tk⟩ y = .nils)
    (h : DR P c ops Q st0 (⟨some (d, .nils), [], [], [], [], [], []⟩ :: done) ⟨(d, .nils) :: fr, bx, tk⟩ rest) : DR P c ops Q st0 done ⟨fr, bx, tk⟩ (⟨some d, .pick x y z, ty, pos, aft, none⟩ :: rest) :=
  DR.cons (e := ⟨some (d, .nils), [], [], [], [], [], []⟩) (fun st' hag Q' hL => LW.out (s_pickTNil (fr := st'.fr) (bx := st'.bx) (tk := st'.tk) hlt ((hag.ev x (by simp [Op.operands, Call.operands])).trans hx) hb ((hag.ev y (by simp [Op.operands, Call.operands])).trans hy) (s_nil hL))) h

theorem d_pickFNil {x y z : Operand} {b : Bool} (hlt : Nat.ble (d + 1) c.nt = true) (hx : St.ev ⟨fr, bx, tk⟩ x = aB b) (hb : b = false) (hy : St.ev ⟨fr, bx, tk⟩ z = .nils)
    (h : DR P c ops Q st0 (⟨some (d, .nils), [], [], [], [], [], []⟩ :: done) ⟨(d, .nils) :: fr, bx, tk⟩ rest) : DR P c ops Q st0 done ⟨fr, bx, tk⟩ (⟨some d, .pick x y z, ty, pos, aft, none⟩ :: rest) :=
  DR.cons (e := ⟨some (d, .nils), [], [], [], [], [], []⟩) (fun st' hag Q' hL => LW.out (s_pickFNil (fr := st'.fr) (bx := st'.bx) (tk := st'.tk) hlt ((hag.ev x (by simp [Op.operands, Call.operands])).trans hx) hb ((hag.ev z (by simp [Op.operands, Call.operands])).trans hy) (s_nil hL))) h

theorem d_pickTAny {x y z : Operand} {b : Bool} (hlt : Nat.ble (d + 1) c.nt = true) (hx : St.ev ⟨fr, bx, tk⟩ x = aB b) (hb : b = true) (hy : St.ev ⟨fr, bx, tk⟩ y = .any)
    (h : DR P c ops Q st0 (⟨some (d, .any), [], [], [], [], [], []⟩ :: done) ⟨(d, .any) :: fr, bx, tk⟩ rest) : DR P c ops Q st0 done ⟨fr, bx, tk⟩ (⟨some d, .pick x y z, ty, pos, aft, none⟩ :: rest) :=
  DR.cons (e := ⟨some (d, .any), [], [], [], [], [], []⟩) (fun st' hag Q' hL => LW.out (s_pickTAny (fr := st'.fr) (bx := st'.bx) (tk := st'.tk) hlt ((hag.ev x (by simp [Op.operands, Call.operands])).trans hx) hb ((hag.ev y (by simp [Op.operands, Call.operands])).trans hy) (s_nil hL))) h

theorem d_pickFAny {x y z : Operand} {b : Bool} (hlt : Nat.ble (d + 1) c.nt = true) (hx : St.ev ⟨fr, bx, tk⟩ x = aB b) (hb : b = false) (hy : St.ev ⟨fr, bx, tk⟩ z = .any)
    (h : DR P c ops Q st0 (⟨some (d, .any), [], [], [], [], [], []⟩ :: done) ⟨(d, .any) :: fr, bx, tk⟩ rest) : DR P c ops Q st0 done ⟨fr, bx, tk⟩ (⟨some d, .pick x y z, ty, pos, aft, none⟩ :: rest) :=
  DR.cons (e := ⟨some (d, .any), [], [], [], [], [], []⟩) (fun st' hag Q' hL => LW.out (s_pickFAny (fr := st'.fr) (bx := st'.bx) (tk := st'.tk) hlt ((hag.ev x (by simp [Op.operands, Call.operands])).trans hx) hb ((hag.ev z (by simp [Op.operands, Call.operands])).trans hy) (s_nil hL))) h


theorem d_gdo {dst : Option Tmp} {op : Op} {st : St} {j s : Nat} {b b' : Bool} (hj : (ops[j]?).bind (·.dst) = some s) (hb : st.ev (.tmp s) = aB b') (he : b' = b)
    (h : DR P c ops Q st0 done st (⟨dst, op, ty, pos, aft, none⟩ :: rest)) : DR P c ops Q st0 done st (⟨dst, op, ty, pos, aft, some (j, b)⟩ :: rest) :=
  DR.of_plain (fun e hv st' hag Q' hL => L.guardDo hj ((hag.gd j s b rfl hj).trans (he ▸ hb)) (hv st' ⟨hag.ev, fun j s b hg => (by simp at hg), hag.bx, hag.tk, hag.fs⟩ Q' hL)) h
theorem d_gskipT {op : Op} {j s : Nat} {b' : Bool} (hlt : Nat.ble (d + 1) c.nt = true) (hj : (ops[j]?).bind (·.dst) = some s) (hb : St.ev ⟨fr, bx, tk⟩ (.tmp s) = aB b') (he : b' = false)
    (h : DR P c ops Q st0 (⟨some (d, .opt false .any), [], [], [], [], [], []⟩ :: done) ⟨(d, .opt false .any) :: fr, bx, tk⟩ rest) : DR P c ops Q st0 done ⟨fr, bx, tk⟩ (⟨some d, op, ty, pos, aft, some (j, true)⟩ :: rest) :=
  DR.cons (e := ⟨some (d, .opt false .any), [], [], [], [], [], []⟩) (fun st' hag Q' hL => LW.out (s_gskipT (fr := st'.fr) (bx := st'.bx) (tk := st'.tk) hlt hj ((hag.gd j s true rfl hj).trans hb) he (s_nil hL))) h
theorem d_gskipF {op : Op} {j s : Nat} {b' : Bool} (hlt : Nat.ble (d + 1) c.nt = true) (hj : (ops[j]?).bind (·.dst) = some s) (hb : St.ev ⟨fr, bx, tk⟩ (.tmp s) = aB b') (he : b' = true)
    (h : DR P c ops Q st0 (⟨some (d, .opt false .any), [], [], [], [], [], []⟩ :: done) ⟨(d, .opt false .any) :: fr, bx, tk⟩ rest) : DR P c ops Q st0 done ⟨fr, bx, tk⟩ (⟨some d, op, ty, pos, aft, some (j, false)⟩ :: rest) :=
  DR.cons (e := ⟨some (d, .opt false .any), [], [], [], [], [], []⟩) (fun st' hag Q' hL => LW.out (s_gskipF (fr := st'.fr) (bx := st'.bx) (tk := st'.tk) hlt hj ((hag.gd j s false rfl hj).trans hb) he (s_nil hL))) h
theorem d_gskipU {op : Op} {j s : Nat} {b : Bool} (hlt : Nat.ble (d + 1) c.nt = true) (hj : (ops[j]?).bind (·.dst) = some s) (hb : St.ev ⟨fr, bx, tk⟩ (.tmp s) = .opt false .any)
    (h : DR P c ops Q st0 (⟨some (d, .opt false .any), [], [], [], [], [], []⟩ :: done) ⟨(d, .opt false .any) :: fr, bx, tk⟩ rest) : DR P c ops Q st0 done ⟨fr, bx, tk⟩ (⟨some d, op, ty, pos, aft, some (j, b)⟩ :: rest) :=
  DR.cons (e := ⟨some (d, .opt false .any), [], [], [], [], [], []⟩) (fun st' hag Q' hL => LW.out (s_gskipU (fr := st'.fr) (bx := st'.bx) (tk := st'.tk) hlt hj ((hag.gd j s b rfl hj).trans hb) (s_nil hL))) h
theorem d_gsplit {o : Oper} {st : St} {j s : Nat} {b b' : Bool} (hj : (ops[j]?).bind (·.dst) = some s) (hg : o.guard = some (j, b)) (hb : st.ev (.tmp s) = aB b') (hT : b' = true → DR P c ops Q st0 done st (o :: rest)) (hF : b' = false → DR P c ops Q st0 done st (o :: rest)) : DR P c ops Q st0 done st (o :: rest) := by
  cases b'
  · exact hF rfl
  · exact hT rfl
theorem d_region {st : St} {id : Nat} {l : List Oper} [hm : MixTy P] (h : DR P c l.toArray Q st [] st l) : L c st ((Code.region id l.toArray true).wp P Q) := DR.region hm.h h
theorem d_nil {st : St} (hok : ordOk ops done.reverse st0 = true) (h : L c st (Q .normal)) : DR P c ops Q st0 done st [] := DR.nil hok h
end
end Go.Abs
