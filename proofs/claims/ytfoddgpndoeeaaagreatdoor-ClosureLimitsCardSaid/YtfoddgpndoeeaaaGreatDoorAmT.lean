/-
  THE ABSTRACT MACHINE, TYPED: what is still to come is handed on; what is read out of lists or comes back from calls is taken apart by the codecs of its type. An evaluation goes on to the end, whatever symbols stand in it.
-/
import Derived.Test.YtfoddgpndoeeaaaGreatDoorAmFin
set_option linter.unusedVariables false
set_option linter.unusedSimpArgs false
namespace Go.AM
open Go.RowKit

/-- a type's codec: elements of lists; results -/
structure Cod where
  T : Type
  enc : T → List AV
structure CodR where
  T : Type
  enc : T → AV
def findC {α : Type 1} : List (Nat × α) → Nat → Option α
  | [], _ => none
  | (j, v) :: l, i => cond (Nat.beq j i) (some v) (findC l i)
structure Cods where
  elem : TypeId → Option Cod
  val : TypeId → Option CodR
  res : Nat → Option CodR
  ptr : Option Cod := none
/-- a pointer that may be nil -/
def encP {T : Type} (enc : T → List AV) : Option T → AV
  | some x => .ref (enc x)
  | none => .nilp
def encMap (K V : CodR) (l : List (K.T × V.T)) : List AV × List AV := (l.map fun p => K.enc p.1, l.map fun p => V.enc p.2)

section
variable {R : Type}
@[irreducible] def check (p : Prop) [Decidable p] (x : Option R) : Option R := if p then x else none
@[irreducible] def getK {α : Type} (xs : List α) (i : Int) (k : α → Option R) : Option R :=
  if 0 ≤ i then match xs[i.toNat]? with
    | some x => k x
    | none => none
  else none
@[irreducible] def getN {α : Type} (xs : List α) (i : Nat) (k : α → Option R) : Option R :=
  match xs[i]? with
  | some x => k x
  | none => none
/-- a call that lends nothing -/
@[irreducible] def callE (c : Option (AV × List (Nat × Ob))) (k : AV → Option R) : Option R :=
  match c with
  | some (r, []) => k r
  | _ => none
/-- a call that lends a row -/
@[irreducible] def callR (c : Option (AV × List (Nat × Ob))) (nm e sz : Nat) (k : AV → List (List AV) → Option R) : Option R :=
  match c with
  | some (r, [(nm', .row e' sz' xs)]) => bif Nat.beq nm nm' && Nat.beq e e' && Nat.beq sz sz' then k r xs else none
  | _ => none
/-- what a key gives -/
@[irreducible] def lookK (x : Option (Option AV)) (k : AV → Option R) (z : Option R) : Option R :=
  match x with
  | some (some v) => k v
  | some none => z
  | none => none
@[irreducible] def putK (x : Option (List AV × List AV)) (k : List AV × List AV → Option R) : Option R :=
  match x with
  | some p => k p
  | none => none
/-- what is encoded -/
@[irreducible] noncomputable def asE {α T : Type} (enc : T → α) (c : α) (k : T → Option R) : Option R :=
  open Classical in if hx : ∃ d, enc d = c then k hx.choose else none

/-- what a call that lends several objects brings back -/
@[irreducible] def callM (c : Option (AV × List (Nat × Ob))) (k : AV → List (Nat × Ob) → Option R) : Option R :=
  match c with
  | some (r, l) => k r l
  | none => none
@[irreducible] def unconsK (nm : Nat) (l : List (Nat × Ob)) (k : Ob → List (Nat × Ob) → Option R) : Option R :=
  match l with
  | (nm', o) :: l => bif Nat.beq nm nm' then k o l else none
  | [] => none
@[irreducible] def nilK (l : List (Nat × Ob)) (k : Option R) : Option R :=
  match l with
  | [] => k
  | _ => none
@[irreducible] noncomputable def sameK (o o' : Ob) (k : Option R) : Option R := open Classical in if o = o' then k else none
@[irreducible] def asRow (e sz : Nat) (o : Ob) (k : List (List AV) → Option R) : Option R :=
  match o with
  | .row e' sz' xs => bif Nat.beq e e' && Nat.beq sz sz' then k xs else none
  | _ => none
@[irreducible] def asMap (kt et : Nat) (o : Ob) (k : List AV × List AV → Option R) : Option R :=
  match o with
  | .mp k' e' ks vs => bif Nat.beq kt k' && Nat.beq et e' then k (ks, vs) else none
  | _ => none
@[irreducible] def ptrK (a : AV) (k : List AV → Option R) : Option R :=
  match a with
  | .ref cs => k cs
  | _ => none
/-- is a key there? -/
@[irreducible] def hasK (x : Option (Option Nat)) (k : Bool → Option R) : Option R :=
  match x with
  | some r => k r.isSome
  | none => none
@[irreducible] def bytesK (x : Option (List UInt8)) (k : List UInt8 → Option R) : Option R :=
  match x with
  | some b => k b
  | none => none
/-- a row is taken out of a map -/
def mrTake (key : AV) (ks : List AV) (vs : List (Option (List (List AV)))) : Option (List (List AV) × List (Option (List (List AV)))) :=
  match mfind key ks with
  | some (some i) => match vs[i]? with
    | some (some xs) => some (xs, vs.set i none)
    | _ => none
  | some none => some ([], vs)
  | none => none
@[irreducible] def takeK (x : Option (List (List AV) × List (Option (List (List AV))))) (k : List (List AV) → List (Option (List (List AV))) → Option R) : Option R :=
  match x with
  | some p => k p.1 p.2
  | none => none
@[irreducible] def putRK (x : Option (List AV × List (Option (List (List AV))))) (k : List AV × List (Option (List (List AV))) → Option R) : Option R :=
  match x with
  | some p => k p
  | none => none
@[irreducible] def allK (x : Option (List (List (List AV)))) (k : List (List (List AV)) → Option R) : Option R :=
  match x with
  | some l => k l
  | none => none
def encMr (K : CodR) (E : Cod) (l : List (K.T × Option (List E.T))) : List AV × List (Option (List (List AV))) := (l.map fun p => K.enc p.1, l.map fun p => p.2.map (List.map E.enc))

def thenK {α : Type} (c : Option α) (k : α → Option R) : Option R :=
  match c with
  | some r => k r
  | none => none
noncomputable def elemK (C : Cods) (e : TypeId) (c : List AV) (k : List AV → Option R) : Option R :=
  match C.elem e with
  | some d => asE d.enc c fun x => k (d.enc x)
  | none => k c
noncomputable def rowK (C : Cods) (e : TypeId) (c : List (List AV)) (k : List (List AV) → Option R) : Option R :=
  match C.elem e with
  | some d => asE (List.map d.enc) c fun x => k (x.map d.enc)
  | none => k c
noncomputable def valK (C : Cods) (t : TypeId) (c : AV) (k : AV → Option R) : Option R :=
  match C.val t with
  | some d => asE d.enc c fun x => k (d.enc x)
  | none => k c
noncomputable def mapK (C : Cods) (kt et : TypeId) (p : List AV × List AV) (k : List AV × List AV → Option R) : Option R :=
  match C.val kt, C.val et with
  | some K, some V => asE (encMap K V) p fun l => k (encMap K V l)
  | _, _ => k p
noncomputable def mrK (C : Cods) (kt e : TypeId) (p : List AV × List (Option (List (List AV)))) (k : List AV × List (Option (List (List AV))) → Option R) : Option R :=
  match C.val kt, C.elem e with
  | some K, some E => asE (encMr K E) p fun l => k (encMr K E l)
  | _, _ => k p
/-- a map of rows, public -/
noncomputable def mpK (C : Cods) (kt e : TypeId) (sz : Nat) (p : List AV × List AV) (k : List AV × List AV → Option R) : Option R :=
  match C.val kt, C.elem e with
  | some K, some E => asE (encMap K ⟨List E.T, fun x => .lst sz (x.map E.enc)⟩) p fun l => k (encMap K ⟨List E.T, fun x => .lst sz (x.map E.enc)⟩ l)
  | _, _ => k p
noncomputable def shapeK (C : Cods) (o o' : Ob) (k : Ob → Option R) : Option R :=
  match o with
  | .row e sz _ => asRow e sz o' fun xs => rowK C e xs fun xs => k (.row e sz xs)
  | .mp kt et _ _ => asMap kt et o' fun p => mapK C kt et p fun p => k (.mp kt et p.1 p.2)
  | o => sameK o' o (k o)
noncomputable def eachK (C : Cods) (keep : List Nat) : List (Nat × Ob) → List (Nat × Ob) → (List (Nat × Ob) → Option R) → Option R
  | [], l', k => nilK l' (k [])
  | (nm, o) :: l, l', k => unconsK nm l' fun o' l'' => bif keep.contains nm then sameK o' o (eachK C keep l l'' fun os => k ((nm, o) :: os)) else shapeK C o o' fun o2 => eachK C keep l l'' fun os => k ((nm, o2) :: os)
noncomputable def resK (C : Cods) (g : Nat) (c : AV) (k : AV → Option R) : Option R :=
  match C.res g with
  | some d => asE d.enc c fun x => k (d.enc x)
  | none => k c

noncomputable def derefK (C : Cods) (a : AV) (k : AV → Option R) : Option R :=
  ptrK a fun cs => match C.ptr with
    | some d => asE d.enc cs fun x => k (.ref (d.enc x))
    | none => k (.ref cs)
/-- a bound of a slice expression -/
def boundK (lo : Option SV) (dflt : Nat) (hi : Nat) (k : Nat → Option R) : Option R :=
  match lo with
  | none => k dflt
  | some (.pv (.int _ i)) => check (0 ≤ i ∧ i ≤ hi) (k i.toNat)
  | some _ => none

/-- all as it was lent -/
noncomputable def allSameK : List (Nat × Ob) → List (Nat × Ob) → Option R → Option R
  | [], l', k => nilK l' k
  | (nm, o) :: l, l', k => unconsK nm l' fun o' l'' => sameK o' o (allSameK l l'' k)
noncomputable def callRoT (P : Program) (C : Cods) (h : Hint) (F : CallF) (st : St) (c : Call) (f : Operand) (k : AV → Option R) : Option R :=
  match roArgs P h st c f with
  | some (g, args) =>
    bif distinct (roIds st args) && Nat.blt (roIds st args).length 10000 && args.all (SV.closed (roIds st args)) then
      match lentObs st (roIds st args) (renOf (roNames (roIds st args))) (roNames (roIds st args)) with
      | some lent => callM (F g (args.map (SV.ren (renOf (roNames (roIds st args))))) lent) fun r l => allSameK lent l (resK C g r fun r => bif r.noSelf then k r else none)
      | none => none
    else none
  | none => none
/-- an operation that only gives a value -/
noncomputable def fstepT (P : Program) (C : Cods) (h : Hint) (F : CallF) (o : Oper) (st : St) (k : SV → Option R) : Option R :=
  match o.op with
  | .pick c a b => match opnd P 0 st c with
    | some (.pv (.bool t)) => bif t then thenK (opnd P o.type st a) k else thenK (opnd P o.type st b) k
    | _ => none
  | .nilCheck x => match opnd P 0 st x with
    | some (.pv a) => derefK C a fun a => k (.pv a)
    | _ => thenK (pval P o st) k
  | .indexAddr t x ix => match P.underlying t with
   | some (.array n e) => thenK (idxArr P st n e x ix) k
   | _ => match isSlice P t, opnd P t st x, opnd P 0 st ix with
    | some (e, s), some (.pv (.lst sz xs)), some (.pv (.int _ i)) => bif Nat.beq s sz then getK xs i fun c => elemK C e c fun c => k (.cp c) else none
    | some (_, s), some (.row id), some (.pv (.int _ i)) => match st.ob id with
      | some (.row _ sz xs) => bif Nat.beq s sz then check (0 ≤ i ∧ i.toNat < xs.length) (k (.rp id sz i.toNat 0)) else none
      | _ => none
    | some (_, s), some (.sub id sz lo hi), some (.pv (.int _ i)) => bif Nat.beq s sz then check (0 ≤ i ∧ i.toNat < hi - lo) (k (.rp id sz (lo + i.toNat) 0)) else none
    | _, _, _ => none
  | .index t x ix => match P.underlying t, opnd P t st x, opnd P 0 st ix with
    | some .string, some (.pv (.str s)), some (.pv (.int _ i)) => getK s i fun b => k (.pv (.int .u8 b.toNat))
    | _, _, _ => none
  | .load t x => match opnd P 0 st x with
    | some (.rp id sz i off) => match st.ob id with
      | some (.row e sz' xs) => bif Nat.beq sz sz' then getN xs i fun c => elemK C e c fun c => thenK (takeCells P t (c.drop off)) fun v => k (.pv v) else none
      | _ => none
    | _ => thenK (pval P o st) k
  | .binOp op t x y _ => match (opnd P t st x).bind pure?, (opnd P t st y).bind pure? with
    | some (.int ka a), some (.int kb b) => match op with
      | .quo => bif ka == kb then check (b ≠ 0) (k (.pv (.int ka (ka.wrap (a.tdiv b))))) else none
      | .rem => bif ka == kb then check (b ≠ 0) (k (.pv (.int ka (a.tmod b)))) else none
      | .shl => check (0 ≤ b) (k (.pv (.int ka (ka.wrap (a * 2 ^ min b.toNat ka.bits)))))
      | .shr => check (0 ≤ b) (k (.pv (.int ka (a.fdiv (2 ^ min b.toNat ka.bits)))))
      | _ => thenK (pval P o st) k
    | some (.str a), some (.str b) => match op with
      | .add => check (a.length + b.length ≤ 9223372036854775807) (k (.pv (.str (a ++ b))))
      | _ => thenK (pval P o st) k
    | _, _ => thenK (pval P o st) k
  | .slice t x lo hi none => match P.underlying t, opnd P t st x, optOpnd P st lo, optOpnd P st hi with
    | some .string, some (.pv (.str s)), some lo, some hi => boundK hi s.length s.length fun h => boundK lo 0 h fun l => k (.pv (.str ((s.take h).drop l)))
    | some (.slice _), some (.pv (.lst sz xs)), some lo, some hi => match isSlice P t with
      | some (_, s) => bif Nat.beq s sz then boundK hi xs.length xs.length fun h => boundK lo 0 h fun l => k (.pv (.lst sz ((xs.take h).drop l))) else none
      | none => none
    | some (.slice _), some (.row id), some lo, some hi => match isSlice P t, st.ob id with
      | some (_, s), some (.row _ sz xs) => bif Nat.beq s sz then boundK hi xs.length xs.length fun h => boundK lo 0 h fun l => k (.sub id sz l h) else none
      | _, _ => none
    | some (.slice _), some (.sub id sz a b), some lo, some hi => match isSlice P t with
      | some (_, s) => bif Nat.beq s sz then boundK hi (b - a) (b - a) fun h => boundK lo 0 h fun l => k (.sub id sz (a + l) (a + h)) else none
      | none => none
    | _, _, _, _ => none
  | .convert src dst x => match P.underlying src, P.underlying dst with
    | some (.slice e), some .string => match P.underlying e, sizeT P e, (opnd P src st x).bind (elems st) with
      | some (.int .u8), some 1, some (1, xs) => bytesK (bytesOf xs) fun b => k (.pv (.str b))
      | _, _, _ => none
    | _, _ => thenK (pval P o st) k
  | .lookup t x kx ok => bif rowMap h x && !ok then none else match P.underlying t with
    | some (.map kt et) => match (opnd P t st x).bind (keysR st), (opnd P kt st kx).bind pure? with
     | some ks, some key => bif ok && keyOk P kt key && (zeroVal P et).isSome then hasK (mfind key ks) fun b => k (.two .any b) else none
     | _, _ => match (opnd P t st x).bind (maps st), (opnd P kt st kx).bind pure? with
      | some (ks, vs), some key => bif keyOk P kt key then lookK (mget key ks vs) (fun v => valK C et v fun v => k (.pv (found ok v true))) (thenK (zeroVal P et) fun z => k (.pv (found ok z false))) else none
      | _, _ => none
    | _ => none
  | .call c => match c.callee with
    | .value f => bif o.dst.any h.owns.contains then none else bif o.dst.any h.stay.contains && wide st c f then callRoT P C h F st c f fun r => k (.pv r) else
      bif wide st c f || c.args.toList.any (fun x => (refIn h st x).isSome) then none else
      match opnd P 0 st f, lendAll P st c.args.toList c.argTypes.toList with
      | some (.pv (.fn g caps)), some vs => callE (F g ((vs ++ caps).map .pv) []) fun r => resK C g r fun r => bif (!(c.args.toList.any (rowIn st)) || r.plain) && r.noSelf then k (.pv r) else none
      | _, _ => none
    | _ => thenK (pcall P c st) k
  | _ => thenK (fval P h F o st) k

/-- a map is written -/
noncomputable def mapStoreT (P : Program) (C : Cods) (st : St) (t : TypeId) (m kx x : Operand) (k : St → Option R) : Option R :=
  match P.underlying t with
  | some (.map kt et) => match laidIn P st et x with
    | some st' => match opnd P t st' m, (opnd P kt st' kx).bind pure?, (opnd P et st' x).bind pure? with
      | some (.row id), some key, some v => match st'.ob id with
        | some (.mp k' e' ks vs) => bif keyOk P kt key && v.noTup then
            putK (mput key v ks vs) fun p => mapK C kt et p fun p => k { st' with ob := put st'.ob id (some (.mp k' e' p.1 p.2)) }
          else none
        | _ => none
      | _, _, _ => none
    | none => none
  | _ => none

/-- an entry is taken out of a map -/
noncomputable def mapDeleteT (P : Program) (C : Cods) (st : St) (t : TypeId) (m kx : Operand) (k : St → Option R) : Option R :=
  match P.underlying t with
  | some (.map kt et) => match opnd P t st m, (opnd P kt st kx).bind pure? with
    | some (.row id), some key => match st.ob id with
      | some (.mp k' e' ks vs) => bif keyOk P kt key then
          putK (mdel key ks vs) fun p => mapK C kt et p fun p => k { st with ob := put st.ob id (some (.mp k' e' p.1 p.2)) }
        else none
      | _ => none
    | _, _ => none
  | _ => none
/-- a map of rows: a row is taken out, laid in -/
noncomputable def mrOutT (P : Program) (C : Cods) (st : St) (t : TypeId) (m kx : Operand) (d : Nat) (k : St → Option R) : Option R :=
  match mrKey P st t m kx with
  | some (et, id, key, k', e, sz, ks, vs) => bif Nat.beq id d then none else match zeroVal P et, isSlice P et with
    | some (.lst _ []), some (e', s) => bif Nat.beq e e' && Nat.beq s sz && Nat.blt 0 s then
        takeK (mrTake key ks vs) fun xs vs' => rowK C e xs fun xs => mrK C k' e (ks, vs') fun p =>
          k ((St.new { st with ob := put st.ob id (some (.mr k' e sz p.1 p.2)) } d (.row e sz xs)).set (some d) (.row d))
      else none
    | _, _ => none
  | none => none
noncomputable def mrInT (P : Program) (C : Cods) (st : St) (t : TypeId) (m kx x : Operand) (k : St → Option R) : Option R :=
  match mrKey P st t m kx with
  | some (et, id, key, k', e, sz, ks, vs) => match x with
    | .const (.slice none 0 0) => match isSlice P et with
      | some (e', s) => bif Nat.beq e e' && Nat.beq s sz && Nat.blt 0 s then
          putRK (mput key (some []) ks vs) fun p => mrK C k' e p fun p => k { st with ob := put st.ob id (some (.mr k' e sz p.1 p.2)) }
        else none
      | none => none
    | x => match opnd P et st x with
      | some (.row j) => match st.ob j with
        | some (.row e' s xs) => bif Nat.beq e e' && Nat.beq s sz && Nat.blt j 10000 then
            putRK (mput key (some xs) ks vs) fun p => mrK C k' e p fun p => k { (st.purge j) with ob := put (st.purge j).ob id (some (.mr k' e sz p.1 p.2)) }
          else none
        | _ => none
      | _ => none
  | none => none
/-- a call that is lent boxes, with what lies in them -/
noncomputable def callManyT (P : Program) (C : Cods) (h : Hint) (F : CallF) (st : St) (c : Call) (f : Operand) (d : Option Nat) (k : St → Option R) : Option R :=
  match (opnd P 0 st f).bind fnSV, argSVs P h st c.args.toList c.argTypes.toList with
  | some (g, caps), some vs =>
    let args := vs ++ caps
    let ids := closeIds st 200 (args.flatMap SV.ids) []
    let mv := movable (d.any h.stay.contains) st (rowIds args)
    let m := nameAll mv 0 ids
    let names := m.map (·.2)
    let ρ := renOf m
    bif distinct ids && Nat.blt ids.length 10000 && args.all (SV.closed ids) then
      match lentObs st ids ρ m with
      | some lent => callM (F g (args.map (SV.ren ρ)) lent) fun r l => eachK C ((m.filter fun p => h.keep.contains p.1).map (·.2)) lent l fun lent' => resK C g r fun r => match backObs names (renOf (swap m)) m lent' with
        | some back => bif r.noSelf then
            let st1 := purgeIds (ids.filter mv) st
            k (St.set { env := st1.env, ob := fun i => (find back i).orElse fun _ => st1.ob i } d (.pv r)) else none
        | none => none
      | none => none
    else none
  | _, _ => none

/-- a call that hands back a row of its own -/
noncomputable def callOwnT (P : Program) (C : Cods) (h : Hint) (F : CallF) (st : St) (c : Call) (f : Operand) (d : Option Nat) (k : St → Option R) : Option R :=
  match d with
  | some d => match opnd P 0 st f, pureArgs P (nilAt h d).isSome st c.args.toList c.argTypes.toList with
    | some (.pv (.fn g caps)), some vs => callE (F g ((vs ++ caps).map .pv) []) fun r => resK C (bif (nilAt h d).isSome then g + 1000000 else g) r fun r => match r with
      | .tup [.self e, .lst sz xs] => bif (nilAt h d).isSome then none else k ((st.new d (.row e sz xs)).set (some d) (.row d))
      | .agg cs => match nilAt h d with
        | some l => match nilCaps cs l with
          | some ks => bif l.all (fun x => Nat.blt x.1 10000) then k ((newRows l st).set (some d) (.ag ks)) else none
          | none => none
        | none => none
      | _ => none
    | _, _ => none
  | none => none
noncomputable def step0T (P : Program) (C : Cods) (h : Hint) (F : CallF) (o : Oper) (st : St) (k : St → Option R) : Option R :=
  match o.op with
  | .makeSlice t l c => match o.dst, isSlice P t, (opnd P 0 st l).bind pure?, (opnd P 0 st c).bind pure? with
    | some d, some (e, s), some (.int _ l), some (.int _ c) => match zeroCells P e, P.info? e with
      | some z, some i => bif Nat.blt 0 s && Nat.beq z.length s then check (0 ≤ l ∧ l ≤ c ∧ i.bytes * c.toNat ≤ 281474976710656 ∧ c ≤ 9223372036854775807)
          (k ((st.new d (.row e s (List.replicate l.toNat z))).set (some d) (.row d))) else none
      | _, _ => none
    | _, _, _, _ => none
  | .store t x y => match o.dst, opnd P 0 st x, opnd P t st y with
    | none, some (.rp id sz i off), some (.pv v) => match st.ob id, sizeT P t with
      | some (.row e sz' xs), some n => bif Nat.beq sz sz' && Nat.beq v.cells.length n && v.noTup then
          getN xs i fun c => elemK C e c fun c => bif Nat.ble (off + n) c.length then k { st with ob := put st.ob id (some (.row e sz' (xs.set i (c.take off ++ v.cells ++ c.drop (off + n))))) } else none
        else none
      | _, _ => none
    | none, some a, some v => thenK (storeAt P t st a v) k
    | _, _, _ => none
  | .call c => match c.callee with
    | .builtin .append => match o.dst, c.args.toList, c.argTypes.toList with
      | some d, [x, y], [t, t'] => match isSlice P t, opnd P t st x, opnd P t' st y with
        | some (e, s), some (.row id), some y => match st.ob id, elems st y, P.info? e with
          | some (.row e' sz xs), some (sz', ys), some i =>
            bif Nat.beq t t' && Nat.beq e e' && Nat.beq s sz && Nat.beq sz sz' && Nat.blt 0 sz && (i.zero.map (fun z => z.cells.size) == some sz) && mayMove id then
              check ((xs.length + ys.length) * i.bytes ≤ 140737488355328 ∧ xs.length + ys.length ≤ 4611686018427387904) (k ((st.new id (.row e sz (xs ++ ys))).set (some d) (.row id)))
            else none
          | _, _, _ => none
        | _, _, _ => none
      | _, _, _ => none
    | .builtin .delete => match o.dst, c.args.toList, c.argTypes.toList with
      | none, [m, kx], t :: _ => mapDeleteT P C st t m kx k
      | _, _, _ => none
    | .builtin .clear => match o.dst, c.args.toList, c.argTypes.toList with
      | none, [x], [t] => match isSlice P t, opnd P t st x with
        | some (e, s), some (.sub id sz lo hi) => match st.ob id, zeroCells P e with
          | some (.row e' sz' xs), some z => bif Nat.beq s sz && Nat.beq sz sz' && Nat.beq z.length sz && Nat.beq e e' && Nat.blt 0 sz then
              check (hi ≤ xs.length) (k { st with ob := put st.ob id (some (.row e' sz' (xs.take lo ++ List.replicate (hi - lo) z ++ xs.drop hi))) }) else none
          | _, _ => none
        | _, _ => none
      | _, _, _ => none
    | .value f => bif o.dst.any h.owns.contains then callOwnT P C h F st c f o.dst k else bif o.dst.any h.stay.contains && wide st c f then fstepT P C h F o st fun v => k (st.set o.dst v) else bif wide st c f then callManyT P C h F st c f o.dst k else bif c.args.toList.any (fun x => (refIn h st x).isSome) then
        match opnd P 0 st f, lendRef P h st c.args.toList c.argTypes.toList with
        | some (.pv (.fn g caps)), some (vs, [id]) => match st.ob id with
          | some (.row e sz xs) => callR (F g (vs ++ caps.map .pv) [(10000, .row e sz xs)]) 10000 e sz fun r xs' => resK C g r fun r => rowK C e xs' fun xs' => match r with
              | .self n => bif mayMove id then check (n ≤ xs'.length) (k ((st.new id (.row e sz (xs'.take n))).set o.dst (.row id))) else none
              | r => bif r.plain then k (St.set { st with ob := put st.ob id (some (.row e sz xs')) } o.dst (.pv r)) else none
          | _ => none
        | _, _ => none
      else bif c.args.toList.any (rowIn st) then
        match opnd P 0 st f, lendAll P st c.args.toList c.argTypes.toList with
        | some (.pv (.fn g caps)), some vs => callE (F g ((vs ++ caps).map .pv) []) fun r => resK C g r fun r => bif r.plain && r.noSelf then k (st.set o.dst (.pv r)) else
            match eff.publishAll st c.args.toList with
            | some st' => match opnd P 0 st' f, lendAll P st' c.args.toList c.argTypes.toList with
              | some (.pv (.fn g' caps')), some vs' => bif c.args.toList.any (rowIn st') then none else callE (F g' ((vs' ++ caps').map .pv) []) fun r => resK C g' r fun r => bif r.noSelf then k (st'.set o.dst (.pv r)) else none
              | _, _ => none
            | none => none
        | _, _ => none
      else fstepT P C h F o st fun v => k (st.set o.dst v)
    | _ => fstepT P C h F o st fun v => k (st.set o.dst v)
  | .mapUpdate t m kx x => match o.dst with
    | none => bif rowMap h m then mrInT P C st t m kx x k else mapStoreT P C st t m kx x k
    | some _ => none
  | .insert t m kx x => match o.dst with
    | none => bif rowMap h m then mrInT P C st t m kx x k else mapStoreT P C st t m kx x k
    | some _ => none
  | .lookup t m kx ok => bif rowMap h m && !ok then
      match o.dst with
      | some d => mrOutT P C st t m kx d k
      | none => none
    else fstepT P C h F o st fun v => k (st.set o.dst v)
  | .range t x => match o.dst, P.underlying t, (opnd P t st x).bind pure? with
    | some d, some .string, some (.str s) => k ((st.new d (.it s 0)).set (some d) (.ptr d 0))
    | _, _, _ => none
  | .next x true => match o.dst, opnd P 0 st x with
    | some d, some (.ptr id 0) => match st.ob id with
      | some (.it s pos) => bif Nat.blt pos s.length then
          k (St.set { st with ob := put st.ob id (some (.it s (pos + (Utf8.decode ⟨s.toArray⟩ pos).2))) } (some d) (.pv (.tup [.bool true, .int .i64 pos, .int .i32 (Utf8.decode ⟨s.toArray⟩ pos).1])))
        else k (st.set (some d) (.pv (.tup [.bool false])))
      | _ => none
    | _, _ => none
  | .assign _ | .buildSlice _ _ _ | .box _ _ | .alloc _ | .makeMap _ _ | .makeFunc _ _ _ | .build _ _ => thenK (step0 P h F o st) k
  | _ => fstepT P C h F o st fun v => k (st.set o.dst v)

noncomputable def stepT (P : Program) (C : Cods) (h : Hint) (F : CallF) (o : Oper) (st : St) (k : St → Option R) : Option R := thenK (preSlots (preOf h o) st) fun st => step0T P C h F o st k

/-- is an operation wanted? where a symbol says, the slot is known behind it -/
def wantK (ops : Array Oper) (o : Oper) (st : St) (k : Bool → St → Option R) : Option R :=
  match o.guard with
  | none => k true st
  | some (j, want) => match (ops[j]?).bind (·.dst) with
    | some d => match st.env d with
      | some (.pv (.bool true)) => k want st
      | some (.pv (.bool false)) => k (!want) st
      | some .undef => k false st
      | _ => none
    | none => none

/-- slots that hold an open Bool and decide something later: each is split upon where it is written -/
def guards (ops : Array Oper) (i : Nat) : Bool := ops.toList.any fun o => match o.guard, o.op with
  | some (j, _), _ => Nat.beq j i
  | none, _ => false

def splitK (b : Bool) (d : Option Nat) (st : St) (k : St → Option R) : Option R :=
  bif b then
    match d with
    | some d => match st.env d with
      | some (.pv (.bool t)) => bif t then k (st.set (some d) (.pv (.bool true))) else k (st.set (some d) (.pv (.bool false)))
      | _ => k st
    | none => k st
  else k st

noncomputable def runOpsT (P : Program) (C : Cods) (h : Hint) (F : CallF) (ops : Array Oper) : Nat → List Oper → St → (St → Option R) → Option R
  | _, [], st, k => k st
  | i, o :: l, st, k => wantK ops o st fun b st => bif b then stepT P C h F o st fun st => splitK (guards ops i) o.dst st fun st => runOpsT P C h F ops (i + 1) l st k
      else runOpsT P C h F ops (i + 1) l (st.set o.dst .undef) k

noncomputable def runDrawT (P : Program) (C : Cods) (h : Hint) (F : CallF) (ops : Array Oper) : Nat → List Oper → List (Nat × Foot) → St → (St → Option R) → Option R
  | _, [], _, st, k => k st
  | i, o :: l, prev, st, k => wantK ops o st fun b st => bif b then
        bif isF h st o && (preOf h o).isEmpty then
          fstepT P C h F o st fun v => bif footOk ops prev i ((footV P h ops o st).fill st (st.set o.dst v)) then
            splitK (guards ops i) o.dst (st.set o.dst v) fun st' => runDrawT P C h F ops (i + 1) l ((i, (footV P h ops o st).fill st (st.set o.dst v)) :: prev) st' k else none
        else stepT P C h F o st fun st' => bif footOk ops prev i ((footE P h ops o st).fill st st') then
            splitK (guards ops i) o.dst st' fun st2 => runDrawT P C h F ops (i + 1) l ((i, (footE P h ops o st).fill st st') :: prev) st2 k else none
      else bif footOk ops prev i ((footSkip ops o).fill st (st.set o.dst .undef)) then runDrawT P C h F ops (i + 1) l ((i, (footSkip ops o).fill st (st.set o.dst .undef)) :: prev) (st.set o.dst .undef) k else none

/-- a loop, run to its end -/
@[irreducible] noncomputable def iterW (P : Program) (h : Hint) (F : CallF) (c : Code) (st : St) (k : Ex → St → Option R) : Option R :=
  open Classical in if hx : ∃ x n, exec P h F n (.loop c) st = some x then k hx.choose.1 hx.choose.2 else none

def seqK (rb : St → (Ex → St → Option R) → Option R) (k : Ex → St → Option R) : Ex → St → Option R := fun e st => match e with
  | .normal => rb st k
  | e => k e st
def blockK (id : Nat) (k : Ex → St → Option R) : Ex → St → Option R := fun e st => match e with
  | .exit j => bif Nat.beq j id then k .normal st else k (.exit j) st
  | e => k e st
noncomputable def againK (P : Program) (h : Hint) (F : CallF) (c : Code) (k : Ex → St → Option R) : Ex → St → Option R := fun e st => match e with
  | .normal => iterW P h F c (h.canon (firstRegion c) st) k
  | e => k e st

/-- what is published ahead of a region -/
noncomputable def pubObsT (C : Cods) : List Nat → St → (St → Option R) → Option R
  | [], st, k => k st
  | id :: l, st, k => match st.ob id with
    | some (.mr kt e sz ks vs) => bif ownId id then
        allK (allSome vs) fun xs => mpK C kt e sz (ks, xs.map (.lst sz)) fun p =>
          pubObsT C l { env := fun i => (st.env i).map (SV.publish id (.mp p.1 p.2)), ob := put (fun i => (st.ob i).map (Ob.publish id (.mp p.1 p.2))) id none } k
      else none
    | _ => match st.pubAny id with
      | some st' => pubObsT C l st' k
      | none => none
noncomputable def pubRT (C : Cods) (h : Hint) (id : Nat) (st : St) (k : St → Option R) : Option R :=
  match find h.pubAt id with
  | some l => pubObsT C l st k
  | none => k st

noncomputable def execT (P : Program) (C : Cods) (h : Hint) (F : CallF) : Code → St → (Ex → St → Option R) → Option R
  | .skip, st, k => k .normal st
  | .label _, st, k => k .normal st
  | .region id ops draw, st, k => pubRT C h id st fun st =>
    bif draw then
      bif edgesBack 0 ops.toList then runDrawT P C h F ops 0 ops.toList [] (purgeAll (allocsOf ops.toList) st) (k .normal) else none
    else runOpsT P C h F ops 0 ops.toList st (k .normal)
  | .seq a b, st, k => match find h.blk (firstRegion a) with
    | some x => check (x.1 st = true) (k (exOf (x.2 st).1) (x.2 st).2)
    | none => execT P C h F a st (seqK (execT P C h F b) k)
  | .cond c a b, st, k => match opnd P 0 st c with
    | some (.pv (.bool t)) => bif t then execT P C h F a st k else execT P C h F b st k
    | _ => none
  | .block id c, st, k => execT P C h F c st (blockK id k)
  | .loop c, st, k => iterW P h F c (h.canon (firstRegion c) st) k
  | .exit id, st, k => k (.exit id) st
  | .ret, st, k => k .ret st
  | .scope c, st, k => execT P C h F c st k
  | _, _, _ => none

/-- a loop by its name, with what follows it -/
noncomputable def findK (P : Program) (C : Cods) (h : Hint) (F : CallF) (key : Nat) : Code → (Ex → St → Option R) → Option (Code × (Ex → St → Option R))
  | .seq a b, k => match find h.blk (firstRegion a) with
    | some _ => none
    | none => match findK P C h F key a (seqK (execT P C h F b) k) with
      | some x => some x
      | none => findK P C h F key b k
  | .cond _ a b, k => match findK P C h F key a k with
    | some x => some x
    | none => findK P C h F key b k
  | .block id c, k => findK P C h F key c (blockK id k)
  | .loop c, k => bif Nat.beq (firstRegion c) key then some (c, k) else findK P C h F key c (againK P h F c k)
  | .scope c, k => findK P C h F key c k
  | _, _ => none
end

/-- a call's body -/
noncomputable def bodyT (P : Program) (C : Cods) (H : Nat → Hint) (prim : CallF) (f : Nat) (args : List SV) (lent : List (Nat × Ob)) : Option (AV × List (Nat × Ob)) :=
  match P.funcs[f]? with
  | some fn => match fn.body with
    | some c => bif Nat.ble args.length fn.ntmps && (lent.map (·.1)).all (fun i => !(ownId i)) then execT P C (H f) (run P H prim) c { env := find (argEnv 0 args), ob := find lent } (endN P (H f).own fn (lent.map (·.1))) else none
    | none => none
  | none => none

/-- from a loop's head on -/
noncomputable def headT (P : Program) (C : Cods) (H : Nat → Hint) (prim : CallF) (f key : Nat) (names : List Nat) (env : List (Nat × SV)) (ob : List (Nat × Ob)) : Option (AV × List (Nat × Ob)) :=
  match P.funcs[f]? with
  | some fn => match fn.body with
    | some c => match findK P C (H f) (run P H prim) key c (endN P (H f).own fn names) with
      | some (cl, k) => iterW P (H f) (run P H prim) cl { env := find env, ob := find ob } k
      | none => none
    | none => none
  | none => none

noncomputable def roundT (P : Program) (C : Cods) (H : Nat → Hint) (prim : CallF) (f key : Nat) (names : List Nat) (env : List (Nat × SV)) (ob : List (Nat × Ob)) : Option (AV × List (Nat × Ob)) :=
  match P.funcs[f]? with
  | some fn => match fn.body with
    | some c => match findK P C (H f) (run P H prim) key c (endN P (H f).own fn names) with
      | some (cl, k) => execT P C (H f) (run P H prim) cl ((H f).canon (firstRegion cl) { env := find env, ob := find ob }) (againK P (H f) (run P H prim) cl k)
      | none => none
    | none => none
  | none => none

/-! SOUND -/
section
variable {R : Type} {P : Program} {C : Cods} {h : Hint} {F : CallF}

theorem thenK_some {α : Type} {c : Option α} {k : α → Option R} {r : R} (hv : thenK c k = some r) : ∃ x, c = some x ∧ k x = some r := by
  cases c with
  | none => simp [thenK] at hv
  | some x => exact ⟨x, rfl, hv⟩
theorem check_some {p : Prop} [Decidable p] {x : Option R} {r : R} (hv : check p x = some r) : p ∧ x = some r := by
  unfold check at hv
  split at hv
  · exact ⟨‹_›, hv⟩
  · cases hv
theorem getK_some {α : Type} {xs : List α} {i : Int} {k : α → Option R} {r : R} (hv : getK xs i k = some r) : 0 ≤ i ∧ ∃ x, xs[i.toNat]? = some x ∧ k x = some r := by
  unfold getK at hv
  split at hv
  · rename_i h0
    split at hv
    · rename_i x hx; exact ⟨h0, x, hx, hv⟩
    · cases hv
  · cases hv
theorem getN_some {α : Type} {xs : List α} {i : Nat} {k : α → Option R} {r : R} (hv : getN xs i k = some r) : ∃ x, xs[i]? = some x ∧ k x = some r := by
  unfold getN at hv
  split at hv
  · rename_i x hx; exact ⟨x, hx, hv⟩
  · cases hv
theorem callE_some {c : Option (AV × List (Nat × Ob))} {k : AV → Option R} {r : R} (hv : callE c k = some r) : ∃ x, c = some (x, []) ∧ k x = some r := by
  unfold callE at hv
  split at hv
  · rename_i x; exact ⟨x, rfl, hv⟩
  · cases hv
theorem callR_some {c : Option (AV × List (Nat × Ob))} {nm e sz : Nat} {k : AV → List (List AV) → Option R} {r : R} (hv : callR c nm e sz k = some r) : ∃ x xs, c = some (x, [(nm, .row e sz xs)]) ∧ k x xs = some r := by
  unfold callR at hv
  split at hv
  · rename_i x nm' e' sz' xs
    replace hv := bif_some hv
    obtain ⟨hb, hv⟩ := hv
    simp only [Bool.and_eq_true] at hb
    have h1 := beq_iff.1 hb.1.1
    have h2 := beq_iff.1 hb.1.2
    have h3 := beq_iff.1 hb.2
    subst h1 h2 h3
    exact ⟨x, xs, rfl, hv⟩
  · cases hv
theorem asE_some {α T : Type} {enc : T → α} {c : α} {k : T → Option R} {r : R} (hv : asE enc c k = some r) : ∃ d, enc d = c ∧ k d = some r := by
  unfold asE at hv
  split at hv
  · rename_i hx; exact ⟨_, hx.choose_spec, hv⟩
  · cases hv
theorem elemK_some {e : TypeId} {c : List AV} {k : List AV → Option R} {r : R} (hv : elemK C e c k = some r) : k c = some r := by
  unfold elemK at hv
  split at hv
  · obtain ⟨x, rfl, hk⟩ := asE_some hv; exact hk
  · exact hv
theorem rowK_some {e : TypeId} {c : List (List AV)} {k : List (List AV) → Option R} {r : R} (hv : rowK C e c k = some r) : k c = some r := by
  unfold rowK at hv
  split at hv
  · obtain ⟨x, rfl, hk⟩ := asE_some hv; exact hk
  · exact hv
theorem resK_some {g : Nat} {c : AV} {k : AV → Option R} {r : R} (hv : resK C g c k = some r) : k c = some r := by
  unfold resK at hv
  split at hv
  · obtain ⟨x, rfl, hk⟩ := asE_some hv; exact hk
  · exact hv
theorem valK_some {t : TypeId} {c : AV} {k : AV → Option R} {r : R} (hv : valK C t c k = some r) : k c = some r := by
  unfold valK at hv
  split at hv
  · obtain ⟨x, rfl, hk⟩ := asE_some hv; exact hk
  · exact hv
theorem mapK_some {kt et : TypeId} {c : List AV × List AV} {k : List AV × List AV → Option R} {r : R} (hv : mapK C kt et c k = some r) : k c = some r := by
  unfold mapK at hv
  split at hv
  · obtain ⟨x, rfl, hk⟩ := asE_some hv; exact hk
  · exact hv
theorem lookK_some {x : Option (Option AV)} {k : AV → Option R} {z : Option R} {r : R} (hv : lookK x k z = some r) : (∃ v, x = some (some v) ∧ k v = some r) ∨ (x = some none ∧ z = some r) := by
  unfold lookK at hv
  split at hv
  · exact .inl ⟨_, rfl, hv⟩
  · exact .inr ⟨rfl, hv⟩
  · cases hv
theorem putK_some {x : Option (List AV × List AV)} {k : List AV × List AV → Option R} {r : R} (hv : putK x k = some r) : ∃ p, x = some p ∧ k p = some r := by
  unfold putK at hv
  split at hv
  · exact ⟨_, rfl, hv⟩
  · cases hv
theorem callM_some {c : Option (AV × List (Nat × Ob))} {k : AV → List (Nat × Ob) → Option R} {r : R} (hv : callM c k = some r) : ∃ x l, c = some (x, l) ∧ k x l = some r := by
  unfold callM at hv
  split at hv
  · exact ⟨_, _, rfl, hv⟩
  · cases hv
theorem unconsK_some {nm : Nat} {l : List (Nat × Ob)} {k : Ob → List (Nat × Ob) → Option R} {r : R} (hv : unconsK nm l k = some r) : ∃ o l', l = (nm, o) :: l' ∧ k o l' = some r := by
  unfold unconsK at hv
  split at hv
  · replace hv := bif_some hv
    obtain ⟨hb, hv⟩ := hv
    have := beq_iff.1 hb; subst this
    exact ⟨_, _, rfl, hv⟩
  · cases hv
theorem nilK_some {l : List (Nat × Ob)} {k : Option R} {r : R} (hv : nilK l k = some r) : l = [] ∧ k = some r := by
  unfold nilK at hv
  split at hv
  · exact ⟨rfl, hv⟩
  · cases hv
theorem sameK_some {o o' : Ob} {k : Option R} {r : R} (hv : sameK o o' k = some r) : o = o' ∧ k = some r := by
  unfold sameK at hv
  split at hv
  · exact ⟨‹_›, hv⟩
  · cases hv
theorem asRow_some {e sz : Nat} {o : Ob} {k : List (List AV) → Option R} {r : R} (hv : asRow e sz o k = some r) : ∃ xs, o = .row e sz xs ∧ k xs = some r := by
  unfold asRow at hv
  split at hv
  · replace hv := bif_some hv
    obtain ⟨hb, hv⟩ := hv
    simp only [Bool.and_eq_true] at hb
    have h1 := beq_iff.1 hb.1; have h2 := beq_iff.1 hb.2; subst h1 h2
    exact ⟨_, rfl, hv⟩
  · cases hv
theorem asMap_some {kt et : Nat} {o : Ob} {k : List AV × List AV → Option R} {r : R} (hv : asMap kt et o k = some r) : ∃ p, o = .mp kt et p.1 p.2 ∧ k p = some r := by
  unfold asMap at hv
  split at hv
  · replace hv := bif_some hv
    obtain ⟨hb, hv⟩ := hv
    simp only [Bool.and_eq_true] at hb
    have h1 := beq_iff.1 hb.1; have h2 := beq_iff.1 hb.2; subst h1 h2
    exact ⟨(_, _), rfl, hv⟩
  · cases hv
theorem hasK_some {x : Option (Option Nat)} {k : Bool → Option R} {r : R} (hv : hasK x k = some r) : ∃ q, x = some q ∧ k q.isSome = some r := by
  unfold hasK at hv
  split at hv
  · exact ⟨_, rfl, hv⟩
  · cases hv
theorem bytesK_some {x : Option (List UInt8)} {k : List UInt8 → Option R} {r : R} (hv : bytesK x k = some r) : ∃ b, x = some b ∧ k b = some r := by
  unfold bytesK at hv
  split at hv
  · exact ⟨_, rfl, hv⟩
  · cases hv
theorem takeK_some {x : Option (List (List AV) × List (Option (List (List AV))))} {k : List (List AV) → List (Option (List (List AV))) → Option R} {r : R} (hv : takeK x k = some r) : ∃ p, x = some p ∧ k p.1 p.2 = some r := by
  unfold takeK at hv
  split at hv
  · exact ⟨_, rfl, hv⟩
  · cases hv
theorem putRK_some {x : Option (List AV × List (Option (List (List AV))))} {k : List AV × List (Option (List (List AV))) → Option R} {r : R} (hv : putRK x k = some r) : ∃ p, x = some p ∧ k p = some r := by
  unfold putRK at hv
  split at hv
  · exact ⟨_, rfl, hv⟩
  · cases hv
theorem allK_some {x : Option (List (List (List AV)))} {k : List (List (List AV)) → Option R} {r : R} (hv : allK x k = some r) : ∃ l, x = some l ∧ k l = some r := by
  unfold allK at hv
  split at hv
  · exact ⟨_, rfl, hv⟩
  · cases hv
theorem mrK_some {kt e : TypeId} {c : List AV × List (Option (List (List AV)))} {k : List AV × List (Option (List (List AV))) → Option R} {r : R} (hv : mrK C kt e c k = some r) : k c = some r := by
  unfold mrK at hv
  split at hv
  · obtain ⟨x, rfl, hk⟩ := asE_some hv; exact hk
  · exact hv
theorem mpK_some {kt e : TypeId} {sz : Nat} {c : List AV × List AV} {k : List AV × List AV → Option R} {r : R} (hv : mpK C kt e sz c k = some r) : k c = some r := by
  unfold mpK at hv
  split at hv
  · obtain ⟨x, rfl, hk⟩ := asE_some hv; exact hk
  · exact hv
theorem shapeK_some {o o' : Ob} {k : Ob → Option R} {r : R} (hv : shapeK C o o' k = some r) : k o' = some r := by
  unfold shapeK at hv
  split at hv
  · obtain ⟨xs, rfl, hk⟩ := asRow_some hv; exact rowK_some hk
  · obtain ⟨p, rfl, hk⟩ := asMap_some hv; exact mapK_some hk
  · obtain ⟨rfl, hk⟩ := sameK_some hv; exact hk
theorem eachK_some {keep : List Nat} : ∀ {l l' : List (Nat × Ob)} {k : List (Nat × Ob) → Option R} {r : R}, eachK C keep l l' k = some r → k l' = some r
  | [], l', k, r, hv => by
    simp only [eachK] at hv
    obtain ⟨rfl, hk⟩ := nilK_some hv
    exact hk
  | (nm, o) :: l, l', k, r, hv => by
    simp only [eachK] at hv
    replace hv := unconsK_some hv
    obtain ⟨o', l'', rfl, hv⟩ := hv
    cases hkp : keep.contains nm with
    | true =>
      rw [hkp] at hv
      obtain ⟨e, hv⟩ := sameK_some hv
      subst e
      exact eachK_some (k := fun os => k ((nm, o') :: os)) hv
    | false =>
      rw [hkp] at hv
      simp only [cond_false] at hv
      exact eachK_some (k := fun os => k ((nm, o') :: os)) (shapeK_some hv)
theorem ptrK_some {a : AV} {k : List AV → Option R} {r : R} (hv : ptrK a k = some r) : ∃ cs, a = .ref cs ∧ k cs = some r := by
  unfold ptrK at hv
  split at hv
  · exact ⟨_, rfl, hv⟩
  · cases hv
theorem derefK_some {a : AV} {k : AV → Option R} {r : R} (hv : derefK C a k = some r) : ∃ cs, a = .ref cs ∧ k (.ref cs) = some r := by
  unfold derefK at hv
  obtain ⟨cs, e, hv⟩ := ptrK_some hv
  refine ⟨cs, e, ?_⟩
  split at hv
  · obtain ⟨x, e2, hv⟩ := asE_some hv; rw [← e2]; exact hv
  · exact hv
theorem allSameK_some : ∀ {l l' : List (Nat × Ob)} {k : Option R} {r : R}, allSameK l l' k = some r → l' = l ∧ k = some r
  | [], l', k, r, hv => by
    simp only [allSameK] at hv
    obtain ⟨e, hk⟩ := nilK_some hv
    exact ⟨e, hk⟩
  | (nm, o) :: l, l', k, r, hv => by
    simp only [allSameK] at hv
    obtain ⟨o', l2, e1, h1⟩ := unconsK_some hv
    obtain ⟨e2, h2⟩ := sameK_some h1
    obtain ⟨e3, h3⟩ := allSameK_some h2
    exact ⟨by rw [e1, e2, e3], h3⟩
theorem callRoT_some {st : St} {c : Call} {f : Operand} {k : AV → Option R} {r : R} (hv : callRoT P C h F st c f k = some r) : ∃ v, callRO P h F st c f = some v ∧ k v = some r := by
  unfold callRoT at hv
  split at hv
  · rename_i g args ha
    obtain ⟨hb, hv⟩ := bif_some hv
    split at hv
    · rename_i lent hl
      obtain ⟨x, l, hx, hv⟩ := callM_some hv
      obtain ⟨e, h2⟩ := allSameK_some hv
      subst e
      obtain ⟨hns, h3⟩ := bif_some (resK_some h2)
      refine ⟨x, ?_, h3⟩
      simp only [callRO, ha, hb, cond_true, hl, hx, sameObs_self, hns, Bool.and_self]
    · cases hv
  · cases hv
theorem boundK_some {lo : Option SV} {d hi : Nat} {k : Nat → Option R} {r : R} (hv : boundK lo d hi k = some r) : ∃ n, boundOf lo d hi = some n ∧ k n = some r := by
  unfold boundK at hv
  split at hv
  · exact ⟨d, rfl, hv⟩
  · rename_i q i
    obtain ⟨hc, hk⟩ := check_some hv
    exact ⟨i.toNat, by simp [boundOf, hc], hk⟩
  · cases hv

theorem fstepT_sound {o : Oper} {st : St} {k : SV → Option R} {r : R} (hv : fstepT P C h F o st k = some r) : ∃ v, fval P h F o st = some v ∧ k v = some r := by
  unfold fstepT at hv
  split at hv
  · rename_i c x y ho
    split at hv
    · rename_i t hc
      cases t with
      | true =>
        obtain ⟨v, hx, hk⟩ := thenK_some hv
        exact ⟨v, by simp [fval, pval, ho, hc, hx], hk⟩
      | false =>
        obtain ⟨v, hx, hk⟩ := thenK_some hv
        exact ⟨v, by simp [fval, pval, ho, hc, hx], hk⟩
    · cases hv
  · rename_i x ho
    split at hv
    · rename_i a hx
      obtain ⟨cs, rfl, hk⟩ := derefK_some hv
      exact ⟨_, by simp only [fval, pval, ho, hx], hk⟩
    · obtain ⟨v, hp, hk⟩ := thenK_some hv
      exact ⟨v, by simp only [fval, ho]; exact hp, hk⟩
  · rename_i t x ix ho
    split at hv
    · rename_i n e hu
      obtain ⟨v, hx, hk⟩ := thenK_some hv
      exact ⟨v, by simp [fval, pval, ho, hu, hx], hk⟩
    · rename_i hna
      have hp : fval P h F o st = idxSl P st t x ix := by
        simp only [fval, ho, pval]
      rw [hp]
      split at hv
      · rename_i e s sz xs q i hs hx hi
        replace hv := bif_some hv
        obtain ⟨hb, hv⟩ := hv
        have := beq_iff.1 hb; subst this
        obtain ⟨h0, c, hc, hk⟩ := getK_some hv
        exact ⟨_, by simp [idxSl, hs, hx, hi, h0, hc], elemK_some hk⟩
      · rename_i e s id q i hs hx hi
        split at hv
        · rename_i e' sz xs hob
          replace hv := bif_some hv
          obtain ⟨hb, hv⟩ := hv
          have := beq_iff.1 hb; subst this
          obtain ⟨hc, hk⟩ := check_some hv
          exact ⟨_, by simp [idxSl, hs, hx, hi, hob, hc], hk⟩
        · cases hv
      · rename_i e s id sz lo hi' q i hs hx hi
        replace hv := bif_some hv
        obtain ⟨hb, hv⟩ := hv
        have := beq_iff.1 hb; subst this
        obtain ⟨hc, hk⟩ := check_some hv
        exact ⟨_, by simp [idxSl, hs, hx, hi, hc], hk⟩
      · cases hv
  · rename_i t x ix ho
    split at hv
    · rename_i s q i hu hx hi
      obtain ⟨h0, b, hb, hk⟩ := getK_some hv
      exact ⟨_, by simp [fval, pval, ho, hu, hx, hi, h0, hb], hk⟩
    · cases hv
  · rename_i t x ho
    split at hv
    · rename_i id sz i off hx
      split at hv
      · rename_i e sz' xs hob
        replace hv := bif_some hv
        obtain ⟨hb, hv⟩ := hv
        have := beq_iff.1 hb; subst this
        obtain ⟨c, hc, hv⟩ := getN_some hv
        replace hv := elemK_some hv
        obtain ⟨v, ht, hk⟩ := thenK_some hv
        exact ⟨_, by simp [fval, pval, ho, hx, hob, hc, ht], hk⟩
      · cases hv
    · obtain ⟨v, ht, hk⟩ := thenK_some hv
      exact ⟨v, by simp only [fval, ho]; exact ht, hk⟩
  · rename_i op t x y t' ho
    have dflt : thenK (pval P o st) (fun v => k v) = some r → ∃ v, fval P h F o st = some v ∧ k v = some r := fun hv => by
      obtain ⟨v, ht, hk⟩ := thenK_some hv
      exact ⟨v, by simp only [fval, ho]; exact ht, hk⟩
    split at hv
    · rename_i ka a kb b hx hy
      split at hv
      · replace hv := bif_some hv
        obtain ⟨hb, hv⟩ := hv
        have hk : ka = kb := by simpa using hb
        subst hk
        obtain ⟨hc, hk⟩ := check_some hv
        exact ⟨_, by simp [fval, pval, ho, hx, hy, bin, intBin, hc], hk⟩
      · replace hv := bif_some hv
        obtain ⟨hb, hv⟩ := hv
        have hk : ka = kb := by simpa using hb
        subst hk
        obtain ⟨hc, hk⟩ := check_some hv
        exact ⟨_, by simp [fval, pval, ho, hx, hy, bin, intBin, hc], hk⟩
      · obtain ⟨hc, hk⟩ := check_some hv
        have : ¬ b < 0 := by omega
        exact ⟨_, by simp [fval, pval, ho, hx, hy, bin, shiftBin, this], hk⟩
      · obtain ⟨hc, hk⟩ := check_some hv
        have : ¬ b < 0 := by omega
        exact ⟨_, by simp [fval, pval, ho, hx, hy, bin, shiftBin, this], hk⟩
      · exact dflt hv
    · rename_i a b hx hy
      split at hv
      · obtain ⟨hc, hk⟩ := check_some hv
        exact ⟨_, by simp [fval, pval, ho, hx, hy, bin, strBin, hc], hk⟩
      · exact dflt hv
    · exact dflt hv
  · rename_i t x lo hi ho
    split at hv
    · rename_i s lv hv' hu hx hlo hhi
      obtain ⟨n, hn, hv⟩ := boundK_some hv
      obtain ⟨m, hm, hk⟩ := boundK_some hv
      exact ⟨_, by simp [fval, pval, ho, hu, hx, hlo, hhi, hn, hm], hk⟩
    · rename_i e sz xs lv hv' hu hx hlo hhi
      split at hv
      · rename_i e' s hs
        replace hv := bif_some hv
        obtain ⟨hb, hv⟩ := hv
        have := beq_iff.1 hb; subst this
        obtain ⟨n, hn, hv⟩ := boundK_some hv
        obtain ⟨m, hm, hk⟩ := boundK_some hv
        exact ⟨_, by simp [fval, pval, ho, hu, hx, hlo, hhi, hs, hn, hm], hk⟩
      · cases hv
    · rename_i e id lv hv' hu hx hlo hhi
      split at hv
      · rename_i e' s e2 sz xs hs hob
        replace hv := bif_some hv
        obtain ⟨hb, hv⟩ := hv
        have := beq_iff.1 hb; subst this
        obtain ⟨n, hn, hv⟩ := boundK_some hv
        obtain ⟨m, hm, hk⟩ := boundK_some hv
        exact ⟨_, by simp [fval, pval, ho, hu, hx, hlo, hhi, hs, hob, hn, hm], hk⟩
      · cases hv
    · rename_i e id sz a b lv hv' hu hx hlo hhi
      split at hv
      · rename_i e' s hs
        replace hv := bif_some hv
        obtain ⟨hb, hv⟩ := hv
        have := beq_iff.1 hb; subst this
        obtain ⟨n, hn, hv⟩ := boundK_some hv
        obtain ⟨m, hm, hk⟩ := boundK_some hv
        exact ⟨_, by simp [fval, pval, ho, hu, hx, hlo, hhi, hs, hn, hm], hk⟩
      · cases hv
    · cases hv
  · rename_i src dst x ho
    split at hv
    · rename_i e hu hd
      split at hv
      · rename_i xs he hs hx
        obtain ⟨b, hb, hk⟩ := bytesK_some hv
        exact ⟨_, by simp [fval, pval, ho, hu, hd, he, hs, hx, hb], hk⟩
      · cases hv
    · obtain ⟨v, ht, hk⟩ := thenK_some hv
      exact ⟨v, by simp only [fval, ho]; exact ht, hk⟩
  · rename_i t x kx ok ho
    cases hrm : (rowMap h x && !ok) with
    | true => rw [hrm] at hv; cases hv
    | false =>
    rw [hrm] at hv
    simp only [cond_false] at hv
    split at hv
    · rename_i kt et hu
      split at hv
      · rename_i ks key hx hk
        obtain ⟨hok, hv⟩ := bif_some hv
        obtain ⟨q, hq, hv⟩ := hasK_some hv
        exact ⟨_, by simp only [fval, pval, ho, hrm, cond_false, hu, hx, hk, hok, cond_true, hq, Option.map_some], hv⟩
      · rename_i hno
        split at hv
        · rename_i ks vs key hx hk
          have hnk : (opnd P t st x).bind (keysR st) = none := by
            cases hkk : (opnd P t st x).bind (keysR st) with
            | none => rfl
            | some ks' => exact (hno ks' key hkk hk).elim
          obtain ⟨hok, hv⟩ := bif_some hv
          rcases lookK_some hv with ⟨v, hg, hv⟩ | ⟨hg, hv⟩
          · exact ⟨_, by simp only [fval, pval, ho, hrm, cond_false, hu, hnk, hx, hk, hok, cond_true, hg], valK_some hv⟩
          · obtain ⟨z, hz, hv⟩ := thenK_some hv
            exact ⟨_, by simp only [fval, pval, ho, hrm, cond_false, hu, hnk, hx, hk, hok, cond_true, hg, hz, Option.map_some], hv⟩
        · cases hv
    · cases hv
  · rename_i c ho
    split at hv
    · rename_i f hc
      cases how : o.dst.any h.owns.contains with
      | true => rw [how] at hv; cases hv
      | false =>
      rw [how] at hv
      simp only [cond_false] at hv
      cases hro : (o.dst.any h.stay.contains && wide st c f) with
      | true =>
        rw [hro] at hv
        simp only [cond_true] at hv
        obtain ⟨v, hx, hk⟩ := callRoT_some hv
        refine ⟨.pv v, ?_, hk⟩
        simp only [fval, ho, hc]
        rw [how, hro, hx]; rfl
      | false =>
      rw [hro] at hv
      simp only [cond_false] at hv
      cases href : (wide st c f || c.args.toList.any (fun x => (refIn h st x).isSome)) with
      | true => rw [href] at hv; cases hv
      | false =>
      rw [href] at hv
      simp only [cond_false] at hv
      split at hv
      · rename_i g caps vs hf hvs
        obtain ⟨r', hx, hv⟩ := callE_some hv
        obtain ⟨hb, hk⟩ := bif_some (resK_some hv)
        refine ⟨.pv r', ?_, hk⟩
        simp only [fval, ho, hc, hf, hvs, hx]
        rw [how, hro, href, hb]; rfl
      · cases hv
    · rename_i hc
      obtain ⟨v, ht, hk⟩ := thenK_some hv
      refine ⟨v, ?_, hk⟩
      simp only [fval, ho]
      exact ht
  · exact thenK_some hv

theorem mapStoreT_sound {st : St} {t : TypeId} {m kx x : Operand} {k : St → Option R} {r : R} (hv : mapStoreT P C st t m kx x k = some r) : ∃ st', mapStore P st t m kx x = some st' ∧ k st' = some r := by
  unfold mapStoreT at hv
  split at hv
  · rename_i kt et hu
    split at hv
    · rename_i st1 h1
      split at hv
      · rename_i id key v hm hk hx
        split at hv
        · rename_i k' e' ks vs hob
          obtain ⟨hc, hv⟩ := bif_some hv
          obtain ⟨p, hp, hv⟩ := putK_some hv
          replace hv := mapK_some hv
          exact ⟨_, by simp only [mapStore, hu, h1, hm, hk, hx, hob, hc, cond_true, hp], hv⟩
        · cases hv
      · cases hv
    · cases hv
  · cases hv
theorem mapDeleteT_sound {st : St} {t : TypeId} {m kx : Operand} {k : St → Option R} {r : R} (hv : mapDeleteT P C st t m kx k = some r) : ∃ st', mapDelete P st t m kx = some st' ∧ k st' = some r := by
  unfold mapDeleteT at hv
  split at hv
  · rename_i kt et hu
    split at hv
    · rename_i id key hm hk
      split at hv
      · rename_i k' e' ks vs hob
        obtain ⟨hc, hv⟩ := bif_some hv
        obtain ⟨p, hp, hv⟩ := putK_some hv
        replace hv := mapK_some hv
        exact ⟨_, by simp only [mapDelete, hu, hm, hk, hob, hc, cond_true, hp], hv⟩
      · cases hv
    · cases hv
  · cases hv
theorem callManyT_sound {st : St} {c : Call} {f : Operand} {d : Option Nat} {k : St → Option R} {r : R} (hv : callManyT P C h F st c f d k = some r) : ∃ st', callMany P h F st c f d = some st' ∧ k st' = some r := by
  unfold callManyT at hv
  split at hv
  · rename_i g caps vs hf hvs
    simp only [] at hv
    replace hv := bif_some hv
    obtain ⟨hb, hv⟩ := hv
    split at hv
    · rename_i lent hl
      obtain ⟨r', l, hx, hv⟩ := callM_some hv
      replace hv := resK_some (eachK_some hv)
      split at hv
      · rename_i back hback
        replace hv := bif_some hv
        obtain ⟨hns, hk⟩ := hv
        refine ⟨_, ?_, hk⟩
        simp only [callMany, hf, hvs, hb, cond_true, hl, hx, hback, hns]
      · cases hv
    · cases hv
  · cases hv
theorem mrInT_sound {st : St} {t : TypeId} {m kx x : Operand} {k : St → Option R} {r : R} (hv : mrInT P C st t m kx x k = some r) : ∃ st', mrIn P st t m kx x = some st' ∧ k st' = some r := by
  unfold mrInT at hv
  split at hv
  · rename_i et id key k' e sz ks vs hmk
    split at hv
    · split at hv
      · rename_i e' s hs
        replace hv := bif_some hv
        obtain ⟨hb, hv⟩ := hv
        simp only [Bool.and_eq_true] at hb
        have e1 := beq_iff.1 hb.1.1
        have e2 := beq_iff.1 hb.1.2
        have e3 : 0 < s := by simpa [Nat.blt_eq] using hb.2
        obtain ⟨p, hp, hv⟩ := putRK_some hv
        refine ⟨_, ?_, mrK_some hv⟩
        simp only [mrIn, hmk, hs]
        rw [if_pos ⟨e1, e2, e3⟩]
        simp only [hp]
      · cases hv
    · rename_i hnc
      split at hv
      · rename_i j hx
        split at hv
        · rename_i e' s xs hob
          replace hv := bif_some hv
          obtain ⟨hb, hv⟩ := hv
          simp only [Bool.and_eq_true] at hb
          have e1 := beq_iff.1 hb.1.1
          have e2 := beq_iff.1 hb.1.2
          have e3 : j < 10000 := by simpa [Nat.blt_eq] using hb.2
          obtain ⟨p, hp, hv⟩ := putRK_some hv
          refine ⟨_, ?_, mrK_some hv⟩
          cases x with
          | tmp i =>
            simp only [mrIn, hmk, hx, hob]
            rw [if_pos ⟨e1, e2, e3⟩]
            simp only [hp]
          | const v =>
            simp only [opnd] at hx
            cases hc : ofConst P et v <;> simp [hc] at hx
          | func f => simp [opnd] at hx
          | global g => simp [opnd] at hx
        · cases hv
      · cases hv
  · cases hv
theorem mrOutT_sound {st : St} {t : TypeId} {m kx : Operand} {d : Nat} {k : St → Option R} {r : R} (hv : mrOutT P C st t m kx d k = some r) : ∃ st', mrOut P st t m kx d = some st' ∧ k st' = some r := by
  unfold mrOutT at hv
  split at hv
  · rename_i et id key k' e sz ks vs hmk
    cases hdd : Nat.beq id d with
    | true => rw [hdd] at hv; cases hv
    | false =>
    rw [hdd] at hv
    simp only [cond_false] at hv
    split at hv
    · rename_i s0 e' s hz hs
      replace hv := bif_some hv
      obtain ⟨hb, hv⟩ := hv
      simp only [Bool.and_eq_true] at hb
      have e1 := beq_iff.1 hb.1.1
      have e2 := beq_iff.1 hb.1.2
      have e3 : 0 < s := by simpa [Nat.blt_eq] using hb.2
      obtain ⟨p, hp, hv⟩ := takeK_some hv
      replace hv := mrK_some (rowK_some hv)
      obtain ⟨_, _, _, _, hob, _⟩ := mrKey_parts hmk
      unfold mrTake at hp
      split at hp
      · rename_i i hf
        split at hp
        · rename_i xs hvi
          injection hp with hp; subst hp
          refine ⟨_, ?_, hv⟩
          simp only [mrOut, hmk, hdd, cond_false, hf, hvi]
        · cases hp
      · rename_i hf
        injection hp with hp; subst hp
        refine ⟨_, ?_, hv⟩
        simp only [mrOut, hmk, hdd, cond_false, hf, hz, hs]
        rw [if_pos ⟨e1, e2, e3⟩]
        have : put st.ob id (some (.mr k' e sz ks vs)) = st.ob := by
          funext i
          by_cases e : id = i
          · subst e; rw [put_same, hob]
          · rw [put_other _ _ e]
        simp only [this]
      · cases hp
    · cases hv
  · cases hv
theorem callOwnT_some {st : St} {c : Call} {f : Operand} {d : Option Nat} {k : St → Option R} {r : R} (hv : callOwnT P C h F st c f d k = some r) : ∃ st', callOwn P h F st c f d = some st' ∧ k st' = some r := by
  unfold callOwnT at hv
  split at hv
  · rename_i d
    split at hv
    · rename_i g caps vs hf hvs
      obtain ⟨x, hx, hv⟩ := callE_some hv
      replace hv := resK_some hv
      split at hv
      · cases hn : (nilAt h d).isSome with
        | true => rw [hn] at hv; cases hv
        | false =>
          rw [hn] at hv hvs
          exact ⟨_, by simp only [callOwn, hn, hf, hvs, hx, cond_false], hv⟩
      · split at hv
        · rename_i l hl
          split at hv
          · rename_i ks hks
            obtain ⟨hb, hv⟩ := bif_some hv
            rw [hl] at hvs
            exact ⟨_, by simp only [callOwn, hl, hf, hvs, hx, hks, hb, cond_true], hv⟩
          · cases hv
        · cases hv
      · cases hv
    · cases hv
  · cases hv
theorem step0T_sound {o : Oper} {st : St} {k : St → Option R} {r : R} (hv : step0T P C h F o st k = some r) : ∃ st', step0 P h F o st = some st' ∧ k st' = some r := by
  have ofF : (fstepT P C h F o st fun v => k (st.set o.dst v)) = some r → ∃ st', step0 P h F o st = some st' ∧ k st' = some r := fun hv => by
    obtain ⟨v, hf, hk⟩ := fstepT_sound hv
    exact ⟨_, by simp only [step0, hf], hk⟩
  unfold step0T at hv
  split at hv
  · rename_i t l c ho
    have hf : fval P h F o st = none := by simp [fval, pval, ho]
    split at hv
    · rename_i d e s kl l' kc c' hd hs hl hc
      split at hv
      · rename_i z i hz hi
        replace hv := bif_some hv
        obtain ⟨hb, hv⟩ := hv
        simp only [Bool.and_eq_true] at hb
        obtain ⟨hcond, hk⟩ := check_some hv
        have h1 : 0 < s := by simpa [Nat.blt_eq] using hb.1
        have h2 : z.length = s := beq_iff.1 hb.2
        exact ⟨_, by simp only [step0, hf, eff, hd, ho, hs, hl, hc, hz, hi]; rw [if_pos ⟨h1, h2, hcond⟩], hk⟩
      · cases hv
    · cases hv
  · rename_i t x y ho
    have hf : fval P h F o st = none := by simp [fval, pval, ho]
    split at hv
    · rename_i id sz i off v hd hx hy
      split at hv
      · rename_i e sz' xs n hob hsz
        replace hv := bif_some hv
        obtain ⟨hb, hv⟩ := hv
        simp only [Bool.and_eq_true] at hb
        have h1 := beq_iff.1 hb.1.1
        subst h1
        have h2 := beq_iff.1 hb.1.2
        obtain ⟨c, hc, hv⟩ := getN_some hv
        replace hv := bif_some (elemK_some hv)
        obtain ⟨hle, hk⟩ := hv
        refine ⟨_, ?_, hk⟩
        simp only [step0, hf, eff, hd, ho, hx, hy, storeAt, hob, hsz, hc]
        rw [if_pos ⟨trivial, h2, Nat.le_of_ble_eq_true hle, hb.2⟩]
      · cases hv
    · rename_i a v _ hd hx hy
      obtain ⟨st', hs, hk⟩ := thenK_some hv
      exact ⟨st', by simp only [step0, hf, eff, hd, ho, hx, hy]; exact hs, hk⟩
    · cases hv
  · rename_i c ho
    split at hv
    · rename_i hc
      have hf : fval P h F o st = none := by
        simp only [fval, ho, hc, pcall]
      split at hv
      · rename_i d x y t t' hd hargs htys
        split at hv
        · rename_i e s id sy hs hx hy
          split at hv
          · rename_i e' sz xs sz' ys i hob hel hi
            replace hv := bif_some hv
            obtain ⟨hb, hv⟩ := hv
            simp only [Bool.and_eq_true] at hb
            obtain ⟨⟨⟨⟨⟨⟨b1, b2⟩, b3⟩, b4⟩, b5⟩, b6⟩, b7⟩ := hb
            have e1 := beq_iff.1 b1
            have e2 := beq_iff.1 b2
            have e3 := beq_iff.1 b3
            have e4 := beq_iff.1 b4
            have e5 : 0 < sz := by simpa [Nat.blt_eq] using b5
            have e6 : i.zero.map (fun z => z.cells.size) = some sz := by simpa using b6
            obtain ⟨hcond, hk⟩ := check_some hv
            refine ⟨_, ?_, hk⟩
            simp only [step0, hf, eff, ho, hc, hd, hargs, htys, hs, hx, hy, hob, hel, hi]
            rw [if_pos ⟨e1, e2, e3, e4, e5, hcond.1, hcond.2, e6, b7⟩]
          · cases hv
        · cases hv
      · cases hv
    · rename_i hc
      have hf : fval P h F o st = none := by simp only [fval, ho, hc, pcall]
      split at hv
      · rename_i m kx t ts hd hargs htys
        obtain ⟨st', h1, hk⟩ := mapDeleteT_sound hv
        exact ⟨st', by simp only [step0, hf, eff, ho, hc, hd, hargs, htys]; exact h1, hk⟩
      · cases hv
    · rename_i hc
      have hf : fval P h F o st = none := by simp only [fval, ho, hc, pcall]
      split at hv
      · rename_i x t hd hargs htys
        split at hv
        · rename_i e s id sz lo hi hs hx
          split at hv
          · rename_i e' sz' xs z hob hz
            replace hv := bif_some hv
            obtain ⟨hb, hv⟩ := hv
            simp only [Bool.and_eq_true] at hb
            obtain ⟨⟨⟨⟨b1, b2⟩, b3⟩, b4⟩, b5⟩ := hb
            have e1 := beq_iff.1 b1
            have e2 := beq_iff.1 b2
            have e3 := beq_iff.1 b3
            have e4 := beq_iff.1 b4
            have e5 : 0 < sz := by simpa [Nat.blt_eq] using b5
            obtain ⟨hle, hk⟩ := check_some hv
            refine ⟨_, ?_, hk⟩
            simp only [step0, hf, eff, ho, hc, hd, hargs, htys, hs, hx, hob, hz]
            rw [if_pos ⟨e1, e2, e3, hle, e4, e5⟩]
          · cases hv
        · cases hv
      · cases hv
    · rename_i f hc
      cases how : o.dst.any h.owns.contains with
      | true =>
        rw [how] at hv
        simp only [cond_true] at hv
        have hf : fval P h F o st = none := by simp only [fval, ho, hc, how, cond_true]
        obtain ⟨st', h1, hk⟩ := callOwnT_some hv
        exact ⟨st', by simp only [step0, hf]; cases hd : o.dst <;> (simp only [eff, ho, hc, hd]; rw [hd] at how; rw [how, ← hd]; exact h1), hk⟩
      | false =>
      rw [how] at hv
      simp only [cond_false] at hv
      have how0 : ∀ d, o.dst = d → d.any h.owns.contains = false := fun d hd => hd ▸ how
      cases hro : (o.dst.any h.stay.contains && wide st c f) with
      | true => rw [hro] at hv; exact ofF hv
      | false =>
      rw [hro] at hv
      simp only [cond_false] at hv
      cases hwd : wide st c f with
      | true =>
        rw [hwd] at hv
        simp only [cond_true] at hv
        have hf : fval P h F o st = none := by simp only [fval, ho, hc]; rw [how, hro, hwd]; rfl
        obtain ⟨st', h1, hk⟩ := callManyT_sound hv
        exact ⟨st', by simp only [step0, hf]; cases hd : o.dst <;> (simp only [eff, ho, hc, hd]; rw [hd] at hro how; rw [how, hro, hwd, ← hd]; exact h1), hk⟩
      | false =>
      have hro0 : ∀ (d : Option Nat), (d.any h.stay.contains && false) = false := fun d => by simp
      rw [hwd] at hv
      simp only [cond_false] at hv
      cases href : c.args.toList.any (fun x => (refIn h st x).isSome) with
      | true =>
        rw [href] at hv
        simp only [cond_true] at hv
        have hf : fval P h F o st = none := by simp only [fval, ho, hc]; rw [how, hro, href]; simp
        split at hv
        · rename_i g caps vs id hfn hvs
          split at hv
          · rename_i e sz xs hob
            obtain ⟨r', xs', hx, hv⟩ := callR_some hv
            replace hv := rowK_some (resK_some hv)
            have hstep : ∀ st2, callRef P h F st c f o.dst = some st2 → step0 P h F o st = some st2 := fun st2 h2 => by
              simp only [step0, hf]
              cases hd : o.dst <;> (simp only [eff, ho, hc, hd]; rw [how0 _ hd, hwd, href, hro0]; simp only [cond_true, cond_false]; rw [← hd]; exact h2)
            split at hv
            · rename_i n
              replace hv := bif_some hv
              obtain ⟨hb, hv⟩ := hv
              obtain ⟨hn, hk⟩ := check_some hv
              refine ⟨_, hstep _ ?_, hk⟩
              simp only [callRef, hfn, hvs, hob, hx, beq_iff.2 (rfl : e = e), beq_iff.2 (rfl : sz = sz), beq_iff.2 (rfl : 10000 = 10000), Bool.and_self, cond_true, hb, Nat.ble_eq_true_of_le hn]
            · rename_i hns
              replace hv := bif_some hv
              obtain ⟨hb, hk⟩ := hv
              refine ⟨_, hstep _ ?_, hk⟩
              simp only [callRef, hfn, hvs, hob, hx, beq_iff.2 (rfl : e = e), beq_iff.2 (rfl : sz = sz), beq_iff.2 (rfl : 10000 = 10000), Bool.and_self, cond_true, hb]
          · cases hv
        · cases hv
      | false =>
      have href0 : (wide st c f || c.args.toList.any (fun x => (refIn h st x).isSome)) = false := by rw [hwd, href]; rfl
      rw [href] at hv
      simp only [cond_false] at hv
      cases hany : c.args.toList.any (rowIn st) with
      | true =>
        simp only [hany, cond_true] at hv
        split at hv
        · rename_i g caps vs hfn hvs
          obtain ⟨r', hx, hv⟩ := callE_some hv
          replace hv := resK_some hv
          cases hp : (r'.plain && r'.noSelf) with
          | true =>
            simp only [hp, cond_true] at hv
            refine ⟨_, ?_, hv⟩
            rw [Bool.and_eq_true] at hp
            simp only [step0, fval, ho, hc]
            rw [how, hro, href0]
            simp only [hfn, hvs, hx, hp.1, hp.2, Bool.true_or, Bool.or_true, Bool.true_and, cond_true, cond_false]
          | false =>
            simp only [hp, cond_false] at hv
            split at hv
            · rename_i st1 hpub
              split at hv
              · rename_i g' caps' vs' hfn' hvs'
                cases hrow : c.args.toList.any (rowIn st1) with
                | true => rw [hrow] at hv; cases hv
                | false =>
                  rw [hrow] at hv
                  simp only [cond_false] at hv
                  obtain ⟨r2, hx2, hv⟩ := callE_some hv
                  replace hv := bif_some (resK_some hv)
                  obtain ⟨hns, hv⟩ := hv
                  refine ⟨_, ?_, hv⟩
                  have hf : fval P h F o st = none := by
                    simp only [fval, ho, hc]
                    rw [how, hro, href0]
                    simp only [cond_false, hfn, hvs, hx, hp, hany, Bool.not_true, Bool.or_false, Bool.false_or]
                  simp only [step0, hf]
                  cases hd : o.dst <;> (simp only [eff, ho, hc, hd]; rw [how0 _ hd, hwd, href, hro0]; simp only [cond_false, hpub, hfn', hvs', hx2, hrow, hns, Bool.not_true, Bool.or_false])
              · cases hv
            · cases hv
        · cases hv
      | false => simp only [hany, cond_false] at hv; exact ofF hv
    · exact ofF hv
  · rename_i t m kx x ho
    split at hv
    · rename_i hd
      cases hrm : rowMap h m with
      | true =>
        rw [hrm] at hv
        obtain ⟨st', h1, hk⟩ := mrInT_sound hv
        exact ⟨st', by simp only [step0, eff, fval, pval, ho, hd]; rw [hrm]; exact h1, hk⟩
      | false =>
        rw [hrm] at hv
        obtain ⟨st', h1, hk⟩ := mapStoreT_sound hv
        exact ⟨st', by simp only [step0, eff, fval, pval, ho, hd]; rw [hrm]; exact h1, hk⟩
    · cases hv
  · rename_i t m kx x ho
    split at hv
    · rename_i hd
      cases hrm : rowMap h m with
      | true =>
        rw [hrm] at hv
        obtain ⟨st', h1, hk⟩ := mrInT_sound hv
        exact ⟨st', by simp only [step0, eff, fval, pval, ho, hd]; rw [hrm]; exact h1, hk⟩
      | false =>
        rw [hrm] at hv
        obtain ⟨st', h1, hk⟩ := mapStoreT_sound hv
        exact ⟨st', by simp only [step0, eff, fval, pval, ho, hd]; rw [hrm]; exact h1, hk⟩
    · cases hv
  · rename_i t m kx ok ho
    cases hrm : (rowMap h m && !ok) with
    | true =>
      rw [hrm] at hv
      simp only [cond_true] at hv
      have hrm' := hrm
      simp only [Bool.and_eq_true, Bool.not_eq_true'] at hrm
      obtain ⟨hr1, rfl⟩ := hrm
      split at hv
      · rename_i d hd
        obtain ⟨st', h1, hk⟩ := mrOutT_sound hv
        refine ⟨st', ?_, hk⟩
        have hf : fval P h F o st = none := by simp only [fval, ho]; rw [hrm']; rfl
        simp only [step0, hf, eff, ho, hd]
        rw [hr1]; exact h1
      · cases hv
    | false => rw [hrm] at hv; exact ofF hv
  · rename_i t x ho
    split at hv
    · rename_i d s hd hu hx
      refine ⟨_, ?_, hv⟩
      simp only [step0, eff, fval, pval, ho, hd, hu, hx]
    · cases hv
  · rename_i x ho
    split at hv
    · rename_i d id hd hx
      split at hv
      · rename_i s pos hob
        have hf : fval P h F o st = none := by simp only [fval, pval, ho]
        cases hp : Nat.blt pos s.length with
        | true =>
          rw [hp] at hv
          refine ⟨_, ?_, hv⟩
          have hp' : pos < s.length := by simpa [Nat.blt_eq] using hp
          simp only [step0, hf, eff, ho, hd, hx, hob]
          rw [if_pos hp']
        | false =>
          rw [hp] at hv
          refine ⟨_, ?_, hv⟩
          have hp' : ¬ pos < s.length := fun h => by rw [← Nat.blt_eq] at h; rw [h] at hp; cases hp
          simp only [step0, hf, eff, ho, hd, hx, hob]
          rw [if_neg hp']
      · cases hv
    · cases hv
  · exact thenK_some hv
  · exact thenK_some hv
  · exact thenK_some hv
  · exact thenK_some hv
  · exact thenK_some hv
  · exact thenK_some hv
  · exact thenK_some hv
  · exact ofF hv

theorem stepT_sound {o : Oper} {st : St} {k : St → Option R} {r : R} (hv : stepT P C h F o st k = some r) : ∃ st', step P h F o st = some st' ∧ k st' = some r := by
  unfold stepT at hv
  obtain ⟨st1, h1, hv⟩ := thenK_some hv
  obtain ⟨st2, h2, hk⟩ := step0T_sound hv
  exact ⟨st2, by simp only [step, h1, Option.bind_some, h2], hk⟩

theorem wantK_sound {ops : Array Oper} {o : Oper} {st : St} {k : Bool → St → Option R} {r : R} (hv : wantK ops o st k = some r) : ∃ b, wantedA ops o st = some b ∧ k b st = some r := by
  unfold wantK at hv
  unfold wantedA
  split at hv
  · rename_i hg; exact ⟨true, by simp [hg], hv⟩
  · rename_i j want hg
    (try simp only [hg])
    split at hv
    · rename_i d hd
      (try simp only [hd])
      split at hv
      · rename_i he; exact ⟨want, by simp [he], hv⟩
      · rename_i he; exact ⟨!want, by simp only [he]; cases want <;> rfl, hv⟩
      · rename_i he; exact ⟨false, by simp [he], hv⟩
      · cases hv
    · cases hv

theorem set_same {st : St} {d : Nat} {v : SV} (he : st.env d = some v) : st.set (some d) v = st := by
  obtain ⟨env, ob⟩ := st
  simp only [St.set, St.mk.injEq, and_true]
  funext i
  by_cases e : d = i
  · subst e; rw [put_same]; exact he.symm
  · rw [put_other _ _ e]

theorem splitK_sound {b : Bool} {d : Option Nat} {st : St} {k : St → Option R} {r : R} (hv : splitK b d st k = some r) : k st = some r := by
  unfold splitK at hv
  cases b with
  | false => exact hv
  | true =>
    simp only [cond_true] at hv
    split at hv
    · rename_i d'
      split at hv
      · rename_i t he
        cases t with
        | true => simp only [cond_true] at hv; rwa [set_same he] at hv
        | false => simp only [cond_false] at hv; rwa [set_same he] at hv
      · exact hv
    · exact hv

theorem runOpsT_sound {ops : Array Oper} : ∀ {l : List Oper} {i : Nat} {st : St} {k : St → Option R} {r : R}, runOpsT P C h F ops i l st k = some r → ∃ s, runOps P h F ops l st = some s ∧ k s = some r := by
  intro l
  induction l with
  | nil => intro i st k r hv; exact ⟨st, rfl, hv⟩
  | cons o l ih =>
    intro i st k r hv
    simp only [runOpsT] at hv
    obtain ⟨b, hw, hv⟩ := wantK_sound hv
    cases b with
    | true =>
      simp only [cond_true] at hv
      obtain ⟨st1, hs, hv⟩ := stepT_sound hv
      obtain ⟨s, hr, hk⟩ := ih (splitK_sound hv)
      exact ⟨s, by simp [runOps, hw, hs, hr], hk⟩
    | false =>
      simp only [cond_false] at hv
      obtain ⟨s, hr, hk⟩ := ih hv
      exact ⟨s, by simp [runOps, hw, hr], hk⟩

theorem runDrawT_sound {ops : Array Oper} : ∀ {l : List Oper} {i : Nat} {prev : List (Nat × Foot)} {st : St} {k : St → Option R} {r : R}, runDrawT P C h F ops i l prev st k = some r → ∃ s, runDraw P h F ops i l prev st = some s ∧ k s = some r := by
  intro l
  induction l with
  | nil => intro i prev st k r hv; exact ⟨st, rfl, hv⟩
  | cons o l ih =>
    intro i prev st k r hv
    simp only [runDrawT] at hv
    replace hv := wantK_sound hv
    obtain ⟨b, hw, hv⟩ := hv
    cases b with
    | true =>
      simp only [cond_true] at hv
      cases hF : (isF h st o && (preOf h o).isEmpty) with
      | true =>
        simp only [hF, cond_true] at hv
        obtain ⟨v, hf, hv⟩ := fstepT_sound hv
        obtain ⟨hc, hv⟩ := bif_some hv
        obtain ⟨s, hr, hk⟩ := ih (splitK_sound hv)
        exact ⟨s, by simp only [runDraw, hw, cond_true, hF, hf, hc]; exact hr, hk⟩
      | false =>
        simp only [hF, cond_false] at hv
        obtain ⟨st1, hs, hv⟩ := stepT_sound hv
        obtain ⟨hc, hv⟩ := bif_some hv
        obtain ⟨s, hr, hk⟩ := ih (splitK_sound hv)
        exact ⟨s, by simp only [runDraw, hw, cond_true, hF, cond_false, hs, hc]; exact hr, hk⟩
    | false =>
      simp only [cond_false] at hv
      obtain ⟨hc, hv⟩ := bif_some hv
      obtain ⟨s, hr, hk⟩ := ih hv
      exact ⟨s, by simp only [runDraw, hw, cond_false, hc, cond_true]; exact hr, hk⟩


theorem find_pickAll {α : Type} (m : Nat → Option α) : ∀ (l : List Nat) (i : Nat), find (pickAll m l) i = if i ∈ l then m i else none := by
  intro l
  induction l with
  | nil => intro i; simp [pickAll, find]
  | cons j l ih =>
    intro i
    simp only [pickAll]
    cases hj : m j with
    | none =>
      simp only [ih, List.mem_cons]
      by_cases e : i = j
      · subst e; simp [hj]
      · simp [e]
    | some v =>
      simp only [find]
      cases hb : Nat.beq j i with
      | true => have := beq_iff.1 hb; subst this; simp [hj]
      | false =>
        have hne : ¬ i = j := fun e => by subst e; simp [beq_iff.2] at hb
        simp only [cond_false, ih, List.mem_cons, hne, false_or]

theorem canon_twice (h : Hint) (key : Nat) (st : St) : h.canon key (h.canon key st) = h.canon key st := by
  unfold Hint.canon
  split
  · rename_i vars obs hf
    simp only [St.mk.injEq]
    constructor <;> (funext i; simp only [find_pickAll]; split <;> rfl)
  · rfl

theorem iter_canon {key : Nat} {f : St → Option (Ex × St)} {n : Nat} {st : St} : iter h key f n (h.canon key st) = iter h key f n st := by
  cases n with
  | zero => rfl
  | succ n => simp only [iter, canon_twice]

theorem iter_more {c : Code} {n m : Nat} (hm : n ≤ m) {key : Nat} : ∀ (q : Nat) {q' : Nat} {st : St} {x : Ex × St}, q ≤ q' → iter h key (exec P h F n c) q st = some x → iter h key (exec P h F m c) q' st = some x := by
  intro q
  induction q with
  | zero => intro q' st x _ hv; simp [iter] at hv
  | succ q ih =>
    intro q' st x hq hv
    obtain ⟨q'', rfl⟩ : ∃ q'', q' = q'' + 1 := ⟨q' - 1, by omega⟩
    simp only [iter] at hv ⊢
    split at hv
    · rename_i st1 hc
      rw [exec_more hm hc]
      exact ih (by omega) hv
    · rename_i hne
      rw [exec_more hm hv]
      obtain ⟨e, s⟩ := x
      cases e with
      | normal => exact absurd hv (hne s)
      | exit j => rfl
      | ret => rfl

theorem iterW_iff {c : Code} {st : St} {k : Ex → St → Option R} {r : R} : iterW P h F c st k = some r ↔ ∃ n e st', exec P h F n (.loop c) st = some (e, st') ∧ k e st' = some r := by
  constructor
  · intro hv
    unfold iterW at hv
    split at hv
    · rename_i hx
      obtain ⟨n, hn⟩ := hx.choose_spec
      exact ⟨n, _, _, hn, hv⟩
    · cases hv
  · rintro ⟨n, e, st', hn, hk⟩
    unfold iterW
    have hx : ∃ x n, exec P h F n (.loop c) st = some x := ⟨(e, st'), n, hn⟩
    rw [dif_pos hx]
    obtain ⟨m, hm⟩ := hx.choose_spec
    have h1 := exec_more (Nat.le_max_left n m) hn
    have h2 := exec_more (Nat.le_max_right n m) hm
    rw [h1] at h2
    injection h2 with h2
    rw [← h2]
    exact hk

theorem pubObsT_sound : ∀ {l : List Nat} {st : St} {k : St → Option R} {r : R}, pubObsT C l st k = some r → ∃ st', pubObs l st = some st' ∧ k st' = some r
  | [], st, k, r, hv => ⟨st, rfl, hv⟩
  | id :: l, st, k, r, hv => by
    simp only [pubObsT] at hv
    split at hv
    · rename_i kt e sz ks vs hob
      replace hv := bif_some hv
      obtain ⟨hown, hv⟩ := hv
      obtain ⟨xs, hxs, hv⟩ := allK_some hv
      obtain ⟨st', h1, hk⟩ := pubObsT_sound (mpK_some hv)
      refine ⟨st', ?_, hk⟩
      simp only [pubObs, St.pubAny, St.publish, hown, hob, Option.bind_some, Ob.val, hxs, Option.map_some]
      exact h1
    · split at hv
      · rename_i st1 hp
        obtain ⟨st', h1, hk⟩ := pubObsT_sound hv
        exact ⟨st', by simp only [pubObs, hp, Option.bind_some]; exact h1, hk⟩
      · cases hv
theorem pubRT_sound {id : Nat} {st : St} {k : St → Option R} {r : R} (hv : pubRT C h id st k = some r) : ∃ st', h.pubR id st = some st' ∧ k st' = some r := by
  unfold pubRT at hv
  unfold Hint.pubR
  split at hv
  · rename_i l hl
    rw [hl]; exact pubObsT_sound hv
  · rename_i hl
    rw [hl]; exact ⟨st, rfl, hv⟩

theorem execT_sound : ∀ (c : Code) {st : St} {k : Ex → St → Option R} {r : R}, execT P C h F c st k = some r → ∃ n e st', exec P h F n c st = some (e, st') ∧ k e st' = some r := by
  intro c
  induction c with
  | skip => intro st k r hv; exact ⟨0, _, _, rfl, hv⟩
  | label l => intro st k r hv; exact ⟨0, _, _, rfl, hv⟩
  | exit id => intro st k r hv; exact ⟨0, _, _, rfl, hv⟩
  | ret => intro st k r hv; exact ⟨0, _, _, rfl, hv⟩
  | region id ops draw =>
    intro st k r hv
    simp only [execT] at hv
    obtain ⟨st1, hpub, hv⟩ := pubRT_sound hv
    cases draw with
    | true =>
      simp only [cond_true] at hv
      obtain ⟨hs, hv⟩ := bif_some hv
      obtain ⟨s, hr, hk⟩ := runDrawT_sound hv
      exact ⟨0, .normal, s, by simp only [exec, hpub, Option.bind_some, cond_true, hs, hr, Option.map_some], hk⟩
    | false =>
      simp only [cond_false] at hv
      obtain ⟨s, hr, hk⟩ := runOpsT_sound hv
      exact ⟨0, .normal, s, by simp [exec, hpub, hr], hk⟩
  | seq x y ihx ihy =>
    intro st k r hv
    simp only [execT] at hv
    cases hfb : find h.blk (firstRegion x) with
    | some z =>
      simp only [hfb] at hv
      obtain ⟨hg, hv⟩ := check_some hv
      exact ⟨0, _, _, by simp only [exec, hfb, hg, cond_true], hv⟩
    | none =>
    simp only [hfb] at hv
    obtain ⟨n, e, st1, hx, hv⟩ := ihx hv
    cases e with
    | normal =>
      obtain ⟨m, e2, st2, hy, hk⟩ := ihy (show execT P C h F y st1 k = some r from hv)
      exact ⟨max n m, e2, st2, by simp only [exec, hfb, exec_more (Nat.le_max_left n m) hx]; exact exec_more (Nat.le_max_right n m) hy, hk⟩
    | exit id => exact ⟨n, _, st1, by simp only [exec, hfb, hx], hv⟩
    | ret => exact ⟨n, _, st1, by simp only [exec, hfb, hx], hv⟩
  | cond c x y ihx ihy =>
    intro st k r hv
    simp only [execT] at hv
    split at hv
    · rename_i t hc
      cases t with
      | true => obtain ⟨n, e, st1, hx, hk⟩ := ihx hv; exact ⟨n, e, st1, by simp only [exec, hc, cond_true]; exact hx, hk⟩
      | false => obtain ⟨n, e, st1, hx, hk⟩ := ihy hv; exact ⟨n, e, st1, by simp only [exec, hc, cond_false]; exact hx, hk⟩
    · cases hv
  | block id c ih =>
    intro st k r hv
    simp only [execT] at hv
    obtain ⟨n, e, st1, hx, hv⟩ := ih hv
    cases e with
    | normal => exact ⟨n, _, st1, by simp only [exec, hx], hv⟩
    | ret => exact ⟨n, _, st1, by simp only [exec, hx], hv⟩
    | exit j =>
      simp only [blockK] at hv
      cases hb : Nat.beq j id with
      | true => simp only [hb, cond_true] at hv; exact ⟨n, .normal, st1, by simp only [exec, hx, hb, cond_true], hv⟩
      | false => simp only [hb, cond_false] at hv; exact ⟨n, .exit j, st1, by simp only [exec, hx, hb, cond_false], hv⟩
  | loop c ih =>
    intro st k r hv
    simp only [execT] at hv
    obtain ⟨n, e, st', hx, hk⟩ := iterW_iff.1 hv
    refine ⟨n, e, st', ?_, hk⟩
    simp only [exec] at hx ⊢
    rwa [iter_canon] at hx
  | scope c ih =>
    intro st k r hv
    simp only [execT] at hv
    obtain ⟨n, e, st1, hx, hk⟩ := ih hv
    exact ⟨n, e, st1, by simp only [exec]; exact hx, hk⟩
  | rangeFunc f ps x y ihx ihy => intro st k r hv; simp [execT] at hv
  | goto l => intro st k r hv; simp [execT] at hv
  | refuse s => intro st k r hv; simp [execT] at hv

theorem iterW_round {c : Code} {st : St} {k : Ex → St → Option R} {r : R} (hv : execT P C h F c (h.canon (firstRegion c) st) (againK P h F c k) = some r) : iterW P h F c st k = some r := by
  obtain ⟨n, e, st1, hx, hk⟩ := execT_sound c hv
  cases e with
  | normal =>
    obtain ⟨m, e2, st2, hm, hk2⟩ := iterW_iff.1 (show iterW P h F c (h.canon (firstRegion c) st1) k = some r from hk)
    simp only [exec, iter_canon] at hm
    refine iterW_iff.2 ⟨max n m + 1, e2, st2, ?_, hk2⟩
    simp only [exec, iter]
    rw [exec_more (show n ≤ max n m + 1 by omega) hx]
    exact iter_more (show m ≤ max n m + 1 by omega) m (by omega) hm
  | exit j =>
    refine iterW_iff.2 ⟨n + 1, .exit j, st1, ?_, hk⟩
    simp only [exec, iter]
    rw [exec_more (show n ≤ n + 1 by omega) hx]
  | ret =>
    refine iterW_iff.2 ⟨n + 1, .ret, st1, ?_, hk⟩
    simp only [exec, iter]
    rw [exec_more (show n ≤ n + 1 by omega) hx]
end

section
variable {P : Program} {C : Cods} {H : Nat → Hint} {prim : CallF}

/-- A CALL, BY ITS BODY -/
theorem run_body {f : Nat} {args : List SV} {lent : List (Nat × Ob)} {r : AV × List (Nat × Ob)} (hp : prim f args lent = none) (hv : bodyT P C H prim f args lent = some r) : run P H prim f args lent = some r := by
  unfold bodyT at hv
  split at hv
  · rename_i fn hf
    split at hv
    · rename_i c hb
      obtain ⟨hc, hv⟩ := bif_some hv
      obtain ⟨n, e, st, hx, he⟩ := execT_sound c hv
      exact run_of_exec hp hf hb hc hx he
    · cases hv
  · cases hv

/-- A LOOP, BY ONE ROUND -/
theorem head_round {f key : Nat} {names : List Nat} {env : List (Nat × SV)} {ob : List (Nat × Ob)} {r : AV × List (Nat × Ob)} (hv : roundT P C H prim f key names env ob = some r) : headT P C H prim f key names env ob = some r := by
  unfold roundT at hv
  unfold headT
  split at hv
  · rename_i fn hf
    (try simp only [hf])
    split at hv
    · rename_i c hb
      (try simp only [hb])
      split at hv
      · rename_i cl k hk
        (try simp only [hk])
        exact iterW_round hv
      · cases hv
    · cases hv
  · cases hv
end

/-! what symbols stand for -/
section
variable {R : Type}
theorem check_pos {p : Prop} [Decidable p] (hp : p) (x : Option R) : check p x = x := by unfold check; rw [if_pos hp]
theorem getK_pos {α : Type} {xs : List α} {i : Int} {x : α} (h0 : 0 ≤ i) (hx : xs[i.toNat]? = some x) (k : α → Option R) : getK xs i k = k x := by unfold getK; rw [if_pos h0, hx]
theorem getK_nat {α : Type} {xs : List α} {i : Nat} {x : α} (hx : xs[i]? = some x) (k : α → Option R) : getK xs (i : Int) k = k x := getK_pos (by omega) (by simpa using hx) k
theorem getN_pos {α : Type} {xs : List α} {i : Nat} {x : α} (hx : xs[i]? = some x) (k : α → Option R) : getN xs i k = k x := by unfold getN; rw [hx]
theorem callE_pos {c : Option (AV × List (Nat × Ob))} {r : AV} (hc : c = some (r, [])) (k : AV → Option R) : callE c k = k r := by subst hc; unfold callE; rfl
theorem callR_pos {c : Option (AV × List (Nat × Ob))} {nm e sz : Nat} {r : AV} {xs : List (List AV)} (hc : c = some (r, [(nm, .row e sz xs)])) (k : AV → List (List AV) → Option R) : callR c nm e sz k = k r xs := by
  subst hc; unfold callR; simp [beq_iff.2]
theorem asE_pos {α T : Type} {enc : T → α} (inj : ∀ a b, enc a = enc b → a = b) (d : T) (k : T → Option R) : asE enc (enc d) k = k d := by
  unfold asE
  have hx : ∃ x, enc x = enc d := ⟨d, rfl⟩
  rw [dif_pos hx, inj _ _ hx.choose_spec]
theorem lookK_pos {x : Option (Option AV)} {v : AV} (hx : x = some (some v)) (k : AV → Option R) (z : Option R) : lookK x k z = k v := by subst hx; unfold lookK; rfl
theorem lookK_neg {x : Option (Option AV)} (hx : x = some none) (k : AV → Option R) (z : Option R) : lookK x k z = z := by subst hx; unfold lookK; rfl
theorem putK_pos {x : Option (List AV × List AV)} {p : List AV × List AV} (hx : x = some p) (k : List AV × List AV → Option R) : putK x k = k p := by subst hx; unfold putK; rfl
theorem getK_map {α β : Type} (f : α → β) (l : List α) (i : Int) (k : β → Option R) : getK (l.map f) i k = getK l i fun x => k (f x) := by
  unfold getK; split
  · simp only [List.getElem?_map]; cases l[i.toNat]? <;> rfl
  · rfl
theorem getN_map {α β : Type} (f : α → β) (l : List α) (i : Nat) (k : β → Option R) : getN (l.map f) i k = getN l i fun x => k (f x) := by
  unfold getN; simp only [List.getElem?_map]; cases l[i]? <;> rfl
end
end Go.AM
