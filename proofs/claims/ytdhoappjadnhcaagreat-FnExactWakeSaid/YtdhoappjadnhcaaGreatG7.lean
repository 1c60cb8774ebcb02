import Derived.Test.YtdhoappjadnhcaaGreatG6
import Derived.Test.YtdhoappjadnhcaaGreatG4
/-
  My own texts (road H): HCTF.
-/
set_option maxHeartbeats 8000000
set_option linter.unusedSimpArgs false
set_option linter.unusedVariables false
namespace HT
open Go Go.Proofs HK
def regOk (n : Int) : Bool := decide (0 ≤ n) && decide (n < 6)
def inR (n lo hi : Int) : Bool := decide (lo ≤ n) && decide (n < hi)
def fieldsOf (op : Int) : Int :=
  if op = 1 then 0
  else if op = 6 ∨ op = 10 ∨ op = 11 ∨ op = 12 ∨ op = 13 ∨ op = 15 then 1
  else if op = 2 ∨ op = 7 ∨ op = 8 ∨ op = 14 then 2
  else if op = 3 ∨ op = 4 ∨ op = 5 ∨ op = 9 then 3 else -1
def restOk (i : Instr) (k : Int) : Bool := (decide (0 < k) || decide (i.a = 0)) && (decide (1 < k) || decide (i.b = 0)) && (decide (2 < k) || decide (i.c = 0))
def kindOk (p : Prog) (n : Int) (i : Instr) : Bool :=
  if i.op = 2 then regOk i.a && valOk i.b
  else if i.op = 3 ∨ i.op = 4 ∨ i.op = 5 then regOk i.a && regOk i.b && regOk i.c
  else if i.op = 6 then inR i.a 0 n
  else if i.op = 7 then regOk i.a && inR i.b 0 n
  else if i.op = 8 then inR i.a (-1) p.caps.length && regOk i.b
  else if i.op = 9 then inR i.a (-1) p.caps.length && regOk i.b && regOk i.c
  else if i.op = 10 then inR i.a (-1) p.caps.length
  else if i.op = 11 then inR i.a 0 p.sels.length
  else if i.op = 12 ∨ i.op = 13 then inR i.a 0 p.mus
  else if i.op = 14 then inR i.a 0 p.procs.length && regOk i.b
  else if i.op = 15 then regOk i.a
  else true
def instrOk (p : Prog) (n : Int) (i : Instr) : Bool := decide (0 ≤ fieldsOf i.op) && restOk i (fieldsOf i.op) && kindOk p n i
theorem fields_i (a : Int) : Fn Tryz.prog 242 [.int .i64 a] (.int .i64 (fieldsOf a)) := by
  refine Fn.intro Tryz.func242 (by decide) rfl (rs := [.tmp 2]) rfl Tryz.ntmps242 (by simp) ?_; refine SW.ra ?_; refine SW.seqK fun K1 hK1 => ?_; refine SW.ra ?_; refine SW.block ?_; refine SW.ra ?_; refine SW.cond _ rfl (by simp) ?_ ?_
  case' refine_2 =>
   intro hb1; try simp at hb1
   try subst hb1
   refine SW.seqK fun K2 hK2 => ?_; refine SW.ra ?_; refine SW.cond _ rfl (by simp) ?_ ?_
   case' refine_2 =>
    intro hb2; try simp at hb2
    try subst hb2
    refine SW.ra ?_; refine SW.cond _ rfl (by simp) ?_ ?_
    case' refine_2 =>
     intro hb3; try simp at hb3
     try subst hb3
     refine SW.ra ?_; refine SW.cond _ rfl (by simp) ?_ ?_
     case' refine_2 =>
      intro hb4; try simp at hb4
      try subst hb4
      refine SW.ra ?_; refine SW.cond _ rfl (by simp) ?_ ?_
      case' refine_2 =>
       intro hb5; try simp at hb5
       try subst hb5
       refine SW.ra ?_; refine SW.cond _ rfl (by simp) ?_ ?_
       case' refine_2 =>
        intro hb6; try simp at hb6
        try subst hb6
        refine SW.ea ?_
       rotate_right
       case' _ =>
        intro hb6; try simp at hb6
        try subst hb6
        refine SW.skip ?_
      rotate_right
      case' _ =>
       intro hb5; try simp at hb5
       try subst hb5
       refine SW.skip ?_
     rotate_right
     case' _ =>
      intro hb4; try simp at hb4
      try subst hb4
      refine SW.skip ?_
    rotate_right
    case' _ =>
     intro hb3; try simp at hb3
     try subst hb3
     refine SW.skip ?_
   rotate_right
   case' _ =>
    intro hb2; try simp at hb2
    try subst hb2
    refine SW.skip ?_
   all_goals (
    refine hK2 _ ?_; refine SW.cond _ rfl (by simp) ?_ ?_
    case' refine_2 =>
     intro hb7
     first
     | (exfalso; simp at hb7; done)
     | (exfalso; simp at hb7; omega)
     | (
      try simp at hb7
      try subst hb7
      refine SW.seqK fun K3 hK3 => ?_; refine SW.ra ?_; refine SW.cond _ rfl (by simp) ?_ ?_
      case' refine_2 =>
       intro hb8; try simp at hb8
       try subst hb8
       refine SW.ra ?_; refine SW.cond _ rfl (by simp) ?_ ?_
       case' refine_2 =>
        intro hb9; try simp at hb9
        try subst hb9
        refine SW.ra ?_; refine SW.cond _ rfl (by simp) ?_ ?_
        case' refine_2 =>
         intro hb10; try simp at hb10
         try subst hb10
         refine SW.ea ?_
        rotate_right
        case' _ =>
         intro hb10; try simp at hb10
         try subst hb10
         refine SW.skip ?_
       rotate_right
       case' _ =>
        intro hb9; try simp at hb9
        try subst hb9
        refine SW.skip ?_
      rotate_right
      case' _ =>
       intro hb8; try simp at hb8
       try subst hb8
       refine SW.skip ?_
      all_goals (
       refine hK3 _ ?_; refine SW.cond _ rfl (by simp) ?_ ?_
       case' refine_2 =>
        intro hb11
        first
        | (exfalso; simp at hb11; done)
        | (exfalso; simp at hb11; omega)
        | (
         try simp at hb11
         try subst hb11
         refine SW.seqK fun K4 hK4 => ?_; refine SW.ra ?_; refine SW.cond _ rfl (by simp) ?_ ?_
         case' refine_2 =>
          intro hb12; try simp at hb12
          try subst hb12
          refine SW.ra ?_; refine SW.cond _ rfl (by simp) ?_ ?_
          case' refine_2 =>
           intro hb13; try simp at hb13
           try subst hb13
           refine SW.ra ?_; refine SW.cond _ rfl (by simp) ?_ ?_
           case' refine_2 =>
            intro hb14; try simp at hb14
            try subst hb14
            refine SW.ea ?_
           rotate_right
           case' _ =>
            intro hb14; try simp at hb14
            try subst hb14
            refine SW.skip ?_
          rotate_right
          case' _ =>
           intro hb13; try simp at hb13
           try subst hb13
           refine SW.skip ?_
         rotate_right
         case' _ =>
          intro hb12; try simp at hb12
          try subst hb12
          refine SW.skip ?_
         all_goals (
          refine hK4 _ ?_; refine SW.cond _ rfl (by simp) ?_ ?_
          case' refine_2 =>
           intro hb15
           first
           | (exfalso; simp at hb15; done)
           | (exfalso; simp at hb15; omega)
           | (
            try simp at hb15
            try subst hb15
            refine SW.skip ?_; refine hK1 _ ?_; refine SW.ra ?_; refine SW.ret ?_; simp [Ex.then, Ex.ib]
            all_goals (unfold fieldsOf)
            all_goals (first | rfl | ((repeat' split) <;> omega) | fail))
          rotate_right
          case' _ =>
           intro hb15; try simp at hb15
           try subst hb15
           refine SW.ra ?_; refine SW.ret ?_; simp [Ex.then, Ex.ib]
           all_goals (unfold fieldsOf)
           all_goals (first | rfl | ((repeat' split) <;> omega) | fail)))
       rotate_right
       case' _ =>
        intro hb11; try simp at hb11
        try subst hb11
        refine SW.ra ?_; refine SW.ret ?_; simp [Ex.then, Ex.ib]
        all_goals (unfold fieldsOf)
        all_goals (first | rfl | ((repeat' split) <;> omega) | fail)))
    rotate_right
    case' _ =>
     intro hb7; try simp at hb7
     try subst hb7
     refine SW.ra ?_; refine SW.ret ?_; simp [Ex.then, Ex.ib]
     all_goals (unfold fieldsOf)
     all_goals (first | rfl | ((repeat' split) <;> omega) | fail))
  rotate_right
  case' _ =>
   intro hb1; try simp at hb1
   try subst hb1
   refine SW.ra ?_; refine SW.ret ?_; simp [Ex.then, Ex.ib]
   all_goals (unfold fieldsOf)
   all_goals (first | rfl | ((repeat' split) <;> omega) | fail)
theorem fields_s (a : Int) : Fn Tryz.prog 254 [.int .i64 a] (.int .i64 (fieldsOf a)) := by
  refine Fn.intro Tryz.func254 (by decide) rfl (rs := [.tmp 2]) rfl Tryz.ntmps254 (by simp) ?_; refine SW.ra ?_; refine SW.seqK fun K1 hK1 => ?_; refine SW.ra ?_; refine SW.block ?_; refine SW.ra ?_; refine SW.cond _ rfl (by simp) ?_ ?_
  case' refine_2 =>
   intro hb1; try simp at hb1
   try subst hb1
   refine SW.seqK fun K2 hK2 => ?_; refine SW.ra ?_; refine SW.cond _ rfl (by simp) ?_ ?_
   case' refine_2 =>
    intro hb2; try simp at hb2
    try subst hb2
    refine SW.ra ?_; refine SW.cond _ rfl (by simp) ?_ ?_
    case' refine_2 =>
     intro hb3; try simp at hb3
     try subst hb3
     refine SW.ra ?_; refine SW.cond _ rfl (by simp) ?_ ?_
     case' refine_2 =>
      intro hb4; try simp at hb4
      try subst hb4
      refine SW.ra ?_; refine SW.cond _ rfl (by simp) ?_ ?_
      case' refine_2 =>
       intro hb5; try simp at hb5
       try subst hb5
       refine SW.ra ?_; refine SW.cond _ rfl (by simp) ?_ ?_
       case' refine_2 =>
        intro hb6; try simp at hb6
        try subst hb6
        refine SW.ea ?_
       rotate_right
       case' _ =>
        intro hb6; try simp at hb6
        try subst hb6
        refine SW.skip ?_
      rotate_right
      case' _ =>
       intro hb5; try simp at hb5
       try subst hb5
       refine SW.skip ?_
     rotate_right
     case' _ =>
      intro hb4; try simp at hb4
      try subst hb4
      refine SW.skip ?_
    rotate_right
    case' _ =>
     intro hb3; try simp at hb3
     try subst hb3
     refine SW.skip ?_
   rotate_right
   case' _ =>
    intro hb2; try simp at hb2
    try subst hb2
    refine SW.skip ?_
   all_goals (
    refine hK2 _ ?_; refine SW.cond _ rfl (by simp) ?_ ?_
    case' refine_2 =>
     intro hb7
     first
     | (exfalso; simp at hb7; done)
     | (exfalso; simp at hb7; omega)
     | (
      try simp at hb7
      try subst hb7
      refine SW.seqK fun K3 hK3 => ?_; refine SW.ra ?_; refine SW.cond _ rfl (by simp) ?_ ?_
      case' refine_2 =>
       intro hb8; try simp at hb8
       try subst hb8
       refine SW.ra ?_; refine SW.cond _ rfl (by simp) ?_ ?_
       case' refine_2 =>
        intro hb9; try simp at hb9
        try subst hb9
        refine SW.ra ?_; refine SW.cond _ rfl (by simp) ?_ ?_
        case' refine_2 =>
         intro hb10; try simp at hb10
         try subst hb10
         refine SW.ea ?_
        rotate_right
        case' _ =>
         intro hb10; try simp at hb10
         try subst hb10
         refine SW.skip ?_
       rotate_right
       case' _ =>
        intro hb9; try simp at hb9
        try subst hb9
        refine SW.skip ?_
      rotate_right
      case' _ =>
       intro hb8; try simp at hb8
       try subst hb8
       refine SW.skip ?_
      all_goals (
       refine hK3 _ ?_; refine SW.cond _ rfl (by simp) ?_ ?_
       case' refine_2 =>
        intro hb11
        first
        | (exfalso; simp at hb11; done)
        | (exfalso; simp at hb11; omega)
        | (
         try simp at hb11
         try subst hb11
         refine SW.seqK fun K4 hK4 => ?_; refine SW.ra ?_; refine SW.cond _ rfl (by simp) ?_ ?_
         case' refine_2 =>
          intro hb12; try simp at hb12
          try subst hb12
          refine SW.ra ?_; refine SW.cond _ rfl (by simp) ?_ ?_
          case' refine_2 =>
           intro hb13; try simp at hb13
           try subst hb13
           refine SW.ra ?_; refine SW.cond _ rfl (by simp) ?_ ?_
           case' refine_2 =>
            intro hb14; try simp at hb14
            try subst hb14
            refine SW.ea ?_
           rotate_right
           case' _ =>
            intro hb14; try simp at hb14
            try subst hb14
            refine SW.skip ?_
          rotate_right
          case' _ =>
           intro hb13; try simp at hb13
           try subst hb13
           refine SW.skip ?_
         rotate_right
         case' _ =>
          intro hb12; try simp at hb12
          try subst hb12
          refine SW.skip ?_
         all_goals (
          refine hK4 _ ?_; refine SW.cond _ rfl (by simp) ?_ ?_
          case' refine_2 =>
           intro hb15
           first
           | (exfalso; simp at hb15; done)
           | (exfalso; simp at hb15; omega)
           | (
            try simp at hb15
            try subst hb15
            refine SW.skip ?_; refine hK1 _ ?_; refine SW.ra ?_; refine SW.ret ?_; simp [Ex.then, Ex.ib]
            all_goals (unfold fieldsOf)
            all_goals (first | rfl | ((repeat' split) <;> omega) | fail))
          rotate_right
          case' _ =>
           intro hb15; try simp at hb15
           try subst hb15
           refine SW.ra ?_; refine SW.ret ?_; simp [Ex.then, Ex.ib]
           all_goals (unfold fieldsOf)
           all_goals (first | rfl | ((repeat' split) <;> omega) | fail)))
       rotate_right
       case' _ =>
        intro hb11; try simp at hb11
        try subst hb11
        refine SW.ra ?_; refine SW.ret ?_; simp [Ex.then, Ex.ib]
        all_goals (unfold fieldsOf)
        all_goals (first | rfl | ((repeat' split) <;> omega) | fail)))
    rotate_right
    case' _ =>
     intro hb7; try simp at hb7
     try subst hb7
     refine SW.ra ?_; refine SW.ret ?_; simp [Ex.then, Ex.ib]
     all_goals (unfold fieldsOf)
     all_goals (first | rfl | ((repeat' split) <;> omega) | fail))
  rotate_right
  case' _ =>
   intro hb1; try simp at hb1
   try subst hb1
   refine SW.ra ?_; refine SW.ret ?_; simp [Ex.then, Ex.ib]
   all_goals (unfold fieldsOf)
   all_goals (first | rfl | ((repeat' split) <;> omega) | fail)
theorem reg_s (a : Int) : Fn Tryz.prog 232 [.int .i64 a] (.bool (regOk a)) := by
  refine Fn.intro Tryz.func232 (by decide) rfl (rs := [.tmp 2]) rfl Tryz.ntmps232 (by simp) ?_; refine SW.ra ?_; refine SW.ra ?_; refine SW.ret ?_; simp [Ex.then, Ex.ib]
  all_goals simp [regOk]
theorem reg_i (a : Int) : Fn Tryz.prog 241 [.int .i64 a] (.bool (regOk a)) := by
  refine Fn.intro Tryz.func241 (by decide) rfl (rs := [.tmp 2]) rfl Tryz.ntmps241 (by simp) ?_; refine SW.ra ?_; refine SW.rg fun K hK => ?_; simp -implicitDefEqProofs; iterate 2 (try refine ⟨by omega, ?_⟩)
  refine CallK.fz (within_ok _ _ _) ?_; simp -implicitDefEqProofs; repeat refine ⟨by omega, ?_⟩
  refine hK _ ?_; clear hK K; refine SW.ret ?_; simp [Ex.then, Ex.ib]
  all_goals simp [regOk]
theorem in_s (a lo hi : Int) : Fn Tryz.prog 253 [.int .i64 a, .int .i64 lo, .int .i64 hi] (.bool (decide (lo ≤ a) && decide (a ≤ hi))) := by
  refine Fn.intro Tryz.func253 (by decide) rfl (rs := [.tmp 6]) rfl Tryz.ntmps253 (by simp) ?_; refine SW.ra ?_; refine SW.ra ?_; refine SW.ret ?_; simp [Ex.then, Ex.ib]
  all_goals simp
theorem rest_s (i : Instr) (k : Int) : Fn Tryz.prog 255 [.agg i.cl, .int .i64 k] (.bool (restOk i k)) := by
  refine Fn.intro Tryz.func255 (by decide) rfl (rs := [.tmp 4]) rfl Tryz.ntmps255 (by simp) ?_; refine SW.ra ?_; refine SW.ra ?_; refine SW.ret ?_; simp [Ex.then, Ex.ib]
  all_goals (rw [Bool.eq_iff_iff]; simp [restOk])
theorem chan_s (p : Prog) (a : Int) (h : p.ok) : Fn Tryz.prog 231 [.agg p.fr, .int .i64 a] (.bool (inR a (-1) p.caps.length)) := by
  refine Fn.intro Tryz.func231 (by decide) rfl (rs := [.tmp 4]) rfl Tryz.ntmps231 (by simp) ?_; have h1 := h.1
  have hw := wrapI ((p.caps.length : Int) - 1) (by omega) (by omega)
  refine SW.ra ?_; refine SW.rg fun K hK => ?_; simp -implicitDefEqProofs [hw]; iterate 2 (try refine ⟨by omega, ?_⟩)
  refine CallK.fz (in_s _ _ _) ?_; simp -implicitDefEqProofs [hw]; repeat refine ⟨by omega, ?_⟩
  refine hK _ ?_; clear hK K; refine SW.ret ?_; simp [Ex.then, Ex.ib]
  all_goals (simp [inR, Int.le_sub_one_iff])
theorem chan_i (p : Prog) (a : Int) : Fn Tryz.prog 240 [.agg p.fr, .int .i64 a] (.bool (inR a (-1) p.caps.length)) := by
  refine Fn.intro Tryz.func240 (by decide) rfl (rs := [.tmp 4]) rfl Tryz.ntmps240 (by simp) ?_; refine SW.ra ?_; refine SW.rg fun K hK => ?_; simp -implicitDefEqProofs; iterate 2 (try refine ⟨by omega, ?_⟩)
  refine CallK.fz (within_ok _ _ _) ?_; simp -implicitDefEqProofs; repeat refine ⟨by omega, ?_⟩
  refine hK _ ?_; clear hK K; refine SW.ret ?_; simp [Ex.then, Ex.ib]
  all_goals (simp [inR]; try omega)
theorem instrOk_s (p : Prog) (n : Int) (i : Instr) (h : p.ok) : Fn Tryz.prog 233 [.agg p.fr, .int .i64 n, .agg i.cl] (.bool (instrOk p n i)) := by
  refine Fn.intro Tryz.func233 (by decide) rfl (rs := [.tmp 6]) rfl Tryz.ntmps233 (by simp) ?_; obtain ⟨op, a, b, c⟩ := i; have h1 := h.1
  have h2 := h.2.1
  have h3 := h.2.2.2.1
  have hw1 := wrapI ((p.sels.length : Int) - 1) (by omega) (by omega)
  have hw2 := wrapI ((p.procs.length : Int) - 1) (by omega) (by omega)
  refine SW.rc ?_; refine SW.rg fun K hK => ?_; simp -implicitDefEqProofs; iterate 2 (try refine ⟨by omega, ?_⟩)
  refine CallK.fz (fields_s _) ?_; simp -implicitDefEqProofs
  first | refine hK _ ?_ | (refine ⟨?_, hK _ ?_⟩; (first | omega | (clear hK; grind) | (intros; simp_all; done))) | (refine ⟨?_, ?_, hK _ ?_⟩; iterate 2 (first | omega | (clear hK; grind) | (intros; simp_all; done)))
  clear hK K; refine SW.seqK fun K1 hK1 => ?_; refine SW.rg fun K hK => ?_; simp -implicitDefEqProofs; iterate 2 (try refine ⟨by omega, ?_⟩)
  refine CallG.fz (by simp) (fun _ => rest_s ⟨op, a, b, c⟩ _) ?_; simp -implicitDefEqProofs
  first | refine hK _ ?_ | (refine ⟨?_, hK _ ?_⟩; (first | omega | (clear hK; grind) | (intros; simp_all; done))) | (refine ⟨?_, ?_, hK _ ?_⟩; iterate 2 (first | omega | (clear hK; grind) | (intros; simp_all; done)))
  clear hK K; refine SW.cond _ rfl (by simp) ?_ ?_
  case' refine_1 =>
   intro hb1; try simp at hb1
   try subst hb1
   refine SW.rc ?_; refine SW.ret ?_; simp [Ex.then, Ex.ib]
   all_goals first
     | (simp [fieldsOf, restOk] at hb1; simp [instrOk, kindOk, fieldsOf, restOk, hb1, inR, Int.le_sub_one_iff, Bool.and_assoc, *]; done)
     | (simp [instrOk, kindOk, *]; done)
     | (simp [instrOk, restOk, *]; done)
     | (simp [instrOk, restOk, *]; omega)
     | (simp [instrOk, kindOk, fieldsOf, *]; done)
     | (simp [fieldsOf, restOk] at *; done)
     | (simp [instrOk, kindOk, fieldsOf, restOk, inR, *]; done)
     | (simp only [instrOk, kindOk, restOk, inR] at *; grind)
     | fail
  intro hb1; try simp at hb1
  try subst hb1
  refine SW.skip ?_; refine hK1 _ ?_; refine SW.seqK fun K2 hK2 => ?_; refine SW.rc ?_; refine SW.block ?_; refine SW.rc ?_; refine SW.cond _ rfl (by simp) ?_ ?_
  case' refine_1 =>
   intro hb2; try simp at hb2
   try subst hb2
   refine SW.rg fun K hK => ?_; simp -implicitDefEqProofs; iterate 2 (try refine ⟨by omega, ?_⟩)
   refine CallK.fz (reg_s _) ?_; simp -implicitDefEqProofs; iterate 2 (try refine ⟨by omega, ?_⟩)
   refine CallG.fz (by simp) (fun _ => val_s _) ?_; simp -implicitDefEqProofs
   first | refine hK _ ?_ | (refine ⟨?_, hK _ ?_⟩; (first | omega | (clear hK; grind) | (intros; simp_all; done))) | (refine ⟨?_, ?_, hK _ ?_⟩; iterate 2 (first | omega | (clear hK; grind) | (intros; simp_all; done)))
   clear hK K; refine SW.ret ?_; simp [Ex.then, Ex.ib]
   all_goals first
     | (simp [fieldsOf, restOk] at hb1; simp [instrOk, kindOk, fieldsOf, restOk, hb1, inR, Int.le_sub_one_iff, Bool.and_assoc, *]; done)
     | (simp [instrOk, kindOk, *]; done)
     | (simp [instrOk, restOk, *]; done)
     | (simp [instrOk, restOk, *]; omega)
     | (simp [instrOk, kindOk, fieldsOf, *]; done)
     | (simp [fieldsOf, restOk] at *; done)
     | (simp [instrOk, kindOk, fieldsOf, restOk, inR, *]; done)
     | (simp only [instrOk, kindOk, restOk, inR] at *; grind)
     | fail
  intro hb2; try simp at hb2
  try subst hb2
  refine SW.seqK fun K3 hK3 => ?_; refine SW.rc ?_; refine SW.cond _ rfl (by simp) ?_ ?_
  case' refine_2 =>
   intro hb3; try simp at hb3
   try subst hb3
   refine SW.rc ?_; refine SW.cond _ rfl (by simp) ?_ ?_
   case' refine_2 =>
    intro hb4; try simp at hb4
    try subst hb4
    refine SW.ec ?_
   rotate_right
   case' _ =>
    intro hb4; try simp at hb4
    try subst hb4
    refine SW.skip ?_
  rotate_right
  case' _ =>
   intro hb3; try simp at hb3
   try subst hb3
   refine SW.skip ?_
  all_goals (
   refine hK3 _ ?_; refine SW.cond _ rfl (by simp) ?_ ?_
   case' refine_1 =>
    intro hb5; try simp at hb5
    try subst hb5
    refine SW.rg fun K hK => ?_; simp -implicitDefEqProofs; iterate 2 (try refine ⟨by omega, ?_⟩)
    refine CallK.fz (reg_s _) ?_; simp -implicitDefEqProofs; iterate 2 (try refine ⟨by omega, ?_⟩)
    refine CallG.fz (by simp) (fun _ => reg_s _) ?_; simp -implicitDefEqProofs; iterate 2 (try refine ⟨by omega, ?_⟩)
    refine CallG.fz (by simp) (fun _ => reg_s _) ?_; simp -implicitDefEqProofs
    first | refine hK _ ?_ | (refine ⟨?_, hK _ ?_⟩; (first | omega | (clear hK; grind) | (intros; simp_all; done))) | (refine ⟨?_, ?_, hK _ ?_⟩; iterate 2 (first | omega | (clear hK; grind) | (intros; simp_all; done)))
    clear hK K; refine SW.ret ?_; simp [Ex.then, Ex.ib]
    all_goals first
      | (simp [fieldsOf, restOk] at hb1; simp [instrOk, kindOk, fieldsOf, restOk, hb1, inR, Int.le_sub_one_iff, Bool.and_assoc, *]; done)
      | (simp [instrOk, kindOk, *]; done)
      | (simp [instrOk, restOk, *]; done)
      | (simp [instrOk, restOk, *]; omega)
      | (simp [instrOk, kindOk, fieldsOf, *]; done)
      | (simp [fieldsOf, restOk] at *; done)
      | (simp [instrOk, kindOk, fieldsOf, restOk, inR, *]; done)
      | (simp only [instrOk, kindOk, restOk, inR] at *; grind)
      | fail
   intro hb5
   first
   | (exfalso; simp at hb5; done)
   | (exfalso; simp at hb5; omega)
   | (
    try simp at hb5
    try subst hb5
    refine SW.rc ?_; refine SW.cond _ rfl (by simp) ?_ ?_
    case' refine_1 =>
     intro hb6; try simp at hb6
     try subst hb6
     refine SW.rc ?_; refine SW.ret ?_; simp [Ex.then, Ex.ib]
     all_goals first
       | (simp [fieldsOf, restOk] at hb1; simp [instrOk, kindOk, fieldsOf, restOk, hb1, inR, Int.le_sub_one_iff, Bool.and_assoc, *]; done)
       | (simp [instrOk, kindOk, *]; done)
       | (simp [instrOk, restOk, *]; done)
       | (simp [instrOk, restOk, *]; omega)
       | (simp [instrOk, kindOk, fieldsOf, *]; done)
       | (simp [fieldsOf, restOk] at *; done)
       | (simp [instrOk, kindOk, fieldsOf, restOk, inR, *]; done)
       | (simp only [instrOk, kindOk, restOk, inR] at *; grind)
       | fail
    intro hb6; try simp at hb6
    try subst hb6
    refine SW.rc ?_; refine SW.cond _ rfl (by simp) ?_ ?_
    case' refine_1 =>
     intro hb7; try simp at hb7
     try subst hb7
     refine SW.rg fun K hK => ?_; simp -implicitDefEqProofs; iterate 2 (try refine ⟨by omega, ?_⟩)
     refine CallK.fz (reg_s _) ?_; simp -implicitDefEqProofs
     first | refine hK _ ?_ | (refine ⟨?_, hK _ ?_⟩; (first | omega | (clear hK; grind) | (intros; simp_all; done))) | (refine ⟨?_, ?_, hK _ ?_⟩; iterate 2 (first | omega | (clear hK; grind) | (intros; simp_all; done)))
     clear hK K; refine SW.ret ?_; simp [Ex.then, Ex.ib]
     all_goals first
       | (simp [fieldsOf, restOk] at hb1; simp [instrOk, kindOk, fieldsOf, restOk, hb1, inR, Int.le_sub_one_iff, Bool.and_assoc, *]; done)
       | (simp [instrOk, kindOk, *]; done)
       | (simp [instrOk, restOk, *]; done)
       | (simp [instrOk, restOk, *]; omega)
       | (simp [instrOk, kindOk, fieldsOf, *]; done)
       | (simp [fieldsOf, restOk] at *; done)
       | (simp [instrOk, kindOk, fieldsOf, restOk, inR, *]; done)
       | (simp only [instrOk, kindOk, restOk, inR] at *; grind)
       | fail
    intro hb7; try simp at hb7
    try subst hb7
    refine SW.rc ?_; refine SW.cond _ rfl (by simp) ?_ ?_
    case' refine_1 =>
     intro hb8; try simp at hb8
     try subst hb8
     refine SW.rg fun K hK => ?_; simp -implicitDefEqProofs; iterate 2 (try refine ⟨by omega, ?_⟩)
     refine CallK.fz (chan_s p _ h) ?_; simp -implicitDefEqProofs; iterate 2 (try refine ⟨by omega, ?_⟩)
     refine CallG.fz (by simp) (fun _ => reg_s _) ?_; simp -implicitDefEqProofs
     first | refine hK _ ?_ | (refine ⟨?_, hK _ ?_⟩; (first | omega | (clear hK; grind) | (intros; simp_all; done))) | (refine ⟨?_, ?_, hK _ ?_⟩; iterate 2 (first | omega | (clear hK; grind) | (intros; simp_all; done)))
     clear hK K; refine SW.ret ?_; simp [Ex.then, Ex.ib]
     all_goals first
       | (simp [fieldsOf, restOk] at hb1; simp [instrOk, kindOk, fieldsOf, restOk, hb1, inR, Int.le_sub_one_iff, Bool.and_assoc, *]; done)
       | (simp [instrOk, kindOk, *]; done)
       | (simp [instrOk, restOk, *]; done)
       | (simp [instrOk, restOk, *]; omega)
       | (simp [instrOk, kindOk, fieldsOf, *]; done)
       | (simp [fieldsOf, restOk] at *; done)
       | (simp [instrOk, kindOk, fieldsOf, restOk, inR, *]; done)
       | (simp only [instrOk, kindOk, restOk, inR] at *; grind)
       | fail
    intro hb8; try simp at hb8
    try subst hb8
    refine SW.rc ?_; refine SW.cond _ rfl (by simp) ?_ ?_
    case' refine_1 =>
     intro hb9; try simp at hb9
     try subst hb9
     refine SW.rg fun K hK => ?_; simp -implicitDefEqProofs; iterate 2 (try refine ⟨by omega, ?_⟩)
     refine CallK.fz (chan_s p _ h) ?_; simp -implicitDefEqProofs; iterate 2 (try refine ⟨by omega, ?_⟩)
     refine CallG.fz (by simp) (fun _ => reg_s _) ?_; simp -implicitDefEqProofs; iterate 2 (try refine ⟨by omega, ?_⟩)
     refine CallG.fz (by simp) (fun _ => reg_s _) ?_; simp -implicitDefEqProofs
     first | refine hK _ ?_ | (refine ⟨?_, hK _ ?_⟩; (first | omega | (clear hK; grind) | (intros; simp_all; done))) | (refine ⟨?_, ?_, hK _ ?_⟩; iterate 2 (first | omega | (clear hK; grind) | (intros; simp_all; done)))
     clear hK K; refine SW.ret ?_; simp [Ex.then, Ex.ib]
     all_goals first
       | (simp [fieldsOf, restOk] at hb1; simp [instrOk, kindOk, fieldsOf, restOk, hb1, inR, Int.le_sub_one_iff, Bool.and_assoc, *]; done)
       | (simp [instrOk, kindOk, *]; done)
       | (simp [instrOk, restOk, *]; done)
       | (simp [instrOk, restOk, *]; omega)
       | (simp [instrOk, kindOk, fieldsOf, *]; done)
       | (simp [fieldsOf, restOk] at *; done)
       | (simp [instrOk, kindOk, fieldsOf, restOk, inR, *]; done)
       | (simp only [instrOk, kindOk, restOk, inR] at *; grind)
       | fail
    intro hb9; try simp at hb9
    try subst hb9
    refine SW.rc ?_; refine SW.cond _ rfl (by simp) ?_ ?_
    case' refine_1 =>
     intro hb10; try simp at hb10
     try subst hb10
     refine SW.rg fun K hK => ?_; simp -implicitDefEqProofs; iterate 2 (try refine ⟨by omega, ?_⟩)
     refine CallK.fz (chan_s p _ h) ?_; simp -implicitDefEqProofs
     first | refine hK _ ?_ | (refine ⟨?_, hK _ ?_⟩; (first | omega | (clear hK; grind) | (intros; simp_all; done))) | (refine ⟨?_, ?_, hK _ ?_⟩; iterate 2 (first | omega | (clear hK; grind) | (intros; simp_all; done)))
     clear hK K; refine SW.ret ?_; simp [Ex.then, Ex.ib]
     all_goals first
       | (simp [fieldsOf, restOk] at hb1; simp [instrOk, kindOk, fieldsOf, restOk, hb1, inR, Int.le_sub_one_iff, Bool.and_assoc, *]; done)
       | (simp [instrOk, kindOk, *]; done)
       | (simp [instrOk, restOk, *]; done)
       | (simp [instrOk, restOk, *]; omega)
       | (simp [instrOk, kindOk, fieldsOf, *]; done)
       | (simp [fieldsOf, restOk] at *; done)
       | (simp [instrOk, kindOk, fieldsOf, restOk, inR, *]; done)
       | (simp only [instrOk, kindOk, restOk, inR] at *; grind)
       | fail
    intro hb10; try simp at hb10
    try subst hb10
    refine SW.rc ?_; refine SW.cond _ rfl (by simp) ?_ ?_
    case' refine_1 =>
     intro hb11; try simp at hb11
     try subst hb11
     refine SW.rg fun K hK => ?_; simp -implicitDefEqProofs; iterate 2 (try refine ⟨by omega, ?_⟩)
     refine CallK.fz (in_s _ _ _) ?_; simp -implicitDefEqProofs
     first | refine hK _ ?_ | (refine ⟨?_, hK _ ?_⟩; (first | omega | (clear hK; grind) | (intros; simp_all; done))) | (refine ⟨?_, ?_, hK _ ?_⟩; iterate 2 (first | omega | (clear hK; grind) | (intros; simp_all; done)))
     clear hK K; refine SW.ret ?_; simp [Ex.then, Ex.ib]
     all_goals first
       | (simp [fieldsOf, restOk] at hb1; simp [instrOk, kindOk, fieldsOf, restOk, hb1, inR, Int.le_sub_one_iff, Bool.and_assoc, *]; done)
       | (simp [instrOk, kindOk, *]; done)
       | (simp [instrOk, restOk, *]; done)
       | (simp [instrOk, restOk, *]; omega)
       | (simp [instrOk, kindOk, fieldsOf, *]; done)
       | (simp [fieldsOf, restOk] at *; done)
       | (simp [instrOk, kindOk, fieldsOf, restOk, inR, *]; done)
       | (simp only [instrOk, kindOk, restOk, inR] at *; grind)
       | fail
    intro hb11; try simp at hb11
    try subst hb11
    refine SW.seqK fun K4 hK4 => ?_; refine SW.rc ?_; refine SW.cond _ rfl (by simp) ?_ ?_
    case' refine_2 =>
     intro hb12; try simp at hb12
     try subst hb12
     refine SW.ec ?_
    rotate_right
    case' _ =>
     intro hb12; try simp at hb12
     try subst hb12
     refine SW.skip ?_
    all_goals (
     refine hK4 _ ?_; refine SW.cond _ rfl (by simp) ?_ ?_
     case' refine_1 =>
      intro hb13; try simp at hb13
      try subst hb13
      refine SW.rc ?_; refine SW.ret ?_; simp [Ex.then, Ex.ib]
      all_goals first
        | (simp [fieldsOf, restOk] at hb1; simp [instrOk, kindOk, fieldsOf, restOk, hb1, inR, Int.le_sub_one_iff, Bool.and_assoc, *]; done)
        | (simp [instrOk, kindOk, *]; done)
        | (simp [instrOk, restOk, *]; done)
        | (simp [instrOk, restOk, *]; omega)
        | (simp [instrOk, kindOk, fieldsOf, *]; done)
        | (simp [fieldsOf, restOk] at *; done)
        | (simp [instrOk, kindOk, fieldsOf, restOk, inR, *]; done)
        | (simp only [instrOk, kindOk, restOk, inR] at *; grind)
        | fail
     intro hb13
     first
     | (exfalso; simp at hb13; done)
     | (exfalso; simp at hb13; omega)
     | (
      try simp at hb13
      try subst hb13
      refine SW.rc ?_; refine SW.cond _ rfl (by simp) ?_ ?_
      case' refine_1 =>
       intro hb14; try simp at hb14
       try subst hb14
       refine SW.rg fun K hK => ?_; simp -implicitDefEqProofs; iterate 2 (try refine ⟨by omega, ?_⟩)
       refine CallK.fz (in_s _ _ _) ?_; simp -implicitDefEqProofs; iterate 2 (try refine ⟨by omega, ?_⟩)
       refine CallG.fz (by simp) (fun _ => reg_s _) ?_; simp -implicitDefEqProofs
       first | refine hK _ ?_ | (refine ⟨?_, hK _ ?_⟩; (first | omega | (clear hK; grind) | (intros; simp_all; done))) | (refine ⟨?_, ?_, hK _ ?_⟩; iterate 2 (first | omega | (clear hK; grind) | (intros; simp_all; done)))
       clear hK K; refine SW.ret ?_; simp [Ex.then, Ex.ib]
       all_goals first
         | (simp [fieldsOf, restOk] at hb1; simp [instrOk, kindOk, fieldsOf, restOk, hb1, inR, Int.le_sub_one_iff, Bool.and_assoc, *]; done)
         | (simp [instrOk, kindOk, *]; done)
         | (simp [instrOk, restOk, *]; done)
         | (simp [instrOk, restOk, *]; omega)
         | (simp [instrOk, kindOk, fieldsOf, *]; done)
         | (simp [fieldsOf, restOk] at *; done)
         | (simp [instrOk, kindOk, fieldsOf, restOk, inR, *]; done)
         | (simp only [instrOk, kindOk, restOk, inR] at *; grind)
         | fail
      intro hb14; try simp at hb14
      try subst hb14
      refine SW.rc ?_; refine SW.cond _ rfl (by simp) ?_ ?_
      case' refine_1 =>
       intro hb15; try simp at hb15
       try subst hb15
       refine SW.rg fun K hK => ?_; simp -implicitDefEqProofs; iterate 2 (try refine ⟨by omega, ?_⟩)
       refine CallK.fz (reg_s _) ?_; simp -implicitDefEqProofs
       first | refine hK _ ?_ | (refine ⟨?_, hK _ ?_⟩; (first | omega | (clear hK; grind) | (intros; simp_all; done))) | (refine ⟨?_, ?_, hK _ ?_⟩; iterate 2 (first | omega | (clear hK; grind) | (intros; simp_all; done)))
       clear hK K; refine SW.ret ?_; simp [Ex.then, Ex.ib]
       all_goals first
         | (simp [fieldsOf, restOk] at hb1; simp [instrOk, kindOk, fieldsOf, restOk, hb1, inR, Int.le_sub_one_iff, Bool.and_assoc, *]; done)
         | (simp [instrOk, kindOk, *]; done)
         | (simp [instrOk, restOk, *]; done)
         | (simp [instrOk, restOk, *]; omega)
         | (simp [instrOk, kindOk, fieldsOf, *]; done)
         | (simp [fieldsOf, restOk] at *; done)
         | (simp [instrOk, kindOk, fieldsOf, restOk, inR, *]; done)
         | (simp only [instrOk, kindOk, restOk, inR] at *; grind)
         | fail
      intro hb15; try simp at hb15
      try subst hb15
      refine SW.skip ?_; refine hK2 _ ?_; refine SW.rc ?_; refine SW.ret ?_; simp [Ex.then, Ex.ib]
      all_goals first
        | (simp [fieldsOf, restOk] at hb1; simp [instrOk, kindOk, fieldsOf, restOk, hb1, inR, Int.le_sub_one_iff, Bool.and_assoc, *]; done)
        | (simp [instrOk, kindOk, *]; done)
        | (simp [instrOk, restOk, *]; done)
        | (simp [instrOk, restOk, *]; omega)
        | (simp [instrOk, kindOk, fieldsOf, *]; done)
        | (simp [fieldsOf, restOk] at *; done)
        | (simp [instrOk, kindOk, fieldsOf, restOk, inR, *]; done)
        | (simp only [instrOk, kindOk, restOk, inR] at *; grind)
        | fail))))
theorem instrOk_i (p : Prog) (n : Int) (i : Instr) (h : p.ok) : Fn Tryz.prog 197 [.agg p.fr, .int .i64 n, .agg i.cl] (.bool (instrOk p n i)) := by
  refine Fn.intro Tryz.func197 (by decide) rfl (rs := [.tmp 6]) rfl Tryz.ntmps197 (by simp) ?_; obtain ⟨op, a, b, c⟩ := i; have h1 := h.1
  have h2 := h.2.1
  have h3 := h.2.2.2.1
  have hw1 := wrapI ((p.sels.length : Int) - 1) (by omega) (by omega)
  have hw2 := wrapI ((p.procs.length : Int) - 1) (by omega) (by omega)
  refine SW.rc ?_; refine SW.seqK fun K1 hK1 => ?_; refine SW.rg fun K hK => ?_; simp -implicitDefEqProofs; iterate 2 (try refine ⟨by omega, ?_⟩)
  refine CallK.fz (fields_i _) ?_; simp -implicitDefEqProofs
  first | refine hK _ ?_ | (refine ⟨?_, hK _ ?_⟩; (first | omega | (clear hK; grind) | (intros; simp_all; done))) | (refine ⟨?_, ?_, hK _ ?_⟩; iterate 2 (first | omega | (clear hK; grind) | (intros; simp_all; done)))
  clear hK K; refine SW.block ?_; refine SW.rc ?_; refine SW.cond _ rfl (by simp) ?_ ?_
  case' refine_2 =>
   intro hb1; try simp at hb1
   try subst hb1
   refine SW.rc ?_; refine SW.cond _ rfl (by simp) ?_ ?_
   case' refine_2 =>
    intro hb2; try simp at hb2
    try subst hb2
    refine SW.rc ?_; refine SW.cond _ rfl (by simp) ?_ ?_
    case' refine_2 =>
     intro hb3; try simp at hb3
     try subst hb3
     refine SW.skip ?_
    rotate_right
    case' _ =>
     intro hb3; try simp at hb3
     try subst hb3
     refine SW.rc ?_; refine SW.cond _ rfl (by simp) ?_ ?_
     case' refine_1 =>
      intro hb4; try simp at hb4
      try subst hb4
      refine SW.rc ?_; refine SW.ret ?_; simp [Ex.then, Ex.ib]
      all_goals first
        | (simp [fieldsOf, restOk] at hb1; simp [instrOk, kindOk, fieldsOf, restOk, hb1, inR, Int.le_sub_one_iff, Bool.and_assoc, *]; done)
        | (simp [instrOk, kindOk, *]; done)
        | (simp [instrOk, restOk, *]; done)
        | (simp [instrOk, restOk, *]; omega)
        | (simp [instrOk, kindOk, fieldsOf, *]; done)
        | (simp [fieldsOf, restOk] at *; done)
        | (simp [instrOk, kindOk, fieldsOf, restOk, inR, *]; done)
        | (simp only [instrOk, kindOk, restOk, inR] at *; grind)
        | fail
     intro hb4; try simp at hb4
     try subst hb4
     refine SW.skip ?_
   rotate_right
   case' _ =>
    intro hb2; try simp at hb2
    try subst hb2
    refine SW.rc ?_; refine SW.cond _ rfl (by simp) ?_ ?_
    case' refine_1 =>
     intro hb5; try simp at hb5
     try subst hb5
     refine SW.rc ?_; refine SW.ret ?_; simp [Ex.then, Ex.ib]
     all_goals first
       | (simp [fieldsOf, restOk] at hb1; simp [instrOk, kindOk, fieldsOf, restOk, hb1, inR, Int.le_sub_one_iff, Bool.and_assoc, *]; done)
       | (simp [instrOk, kindOk, *]; done)
       | (simp [instrOk, restOk, *]; done)
       | (simp [instrOk, restOk, *]; omega)
       | (simp [instrOk, kindOk, fieldsOf, *]; done)
       | (simp [fieldsOf, restOk] at *; done)
       | (simp [instrOk, kindOk, fieldsOf, restOk, inR, *]; done)
       | (simp only [instrOk, kindOk, restOk, inR] at *; grind)
       | fail
    intro hb5; try simp at hb5
    try subst hb5
    refine SW.skip ?_
  rotate_right
  case' _ =>
   intro hb1; try simp at hb1
   try subst hb1
   refine SW.rc ?_; refine SW.cond _ rfl (by simp) ?_ ?_
   case' refine_1 =>
    intro hb6; try simp at hb6
    try subst hb6
    refine SW.rc ?_; refine SW.ret ?_; simp [Ex.then, Ex.ib]
    all_goals first
      | (simp [fieldsOf, restOk] at hb1; simp [instrOk, kindOk, fieldsOf, restOk, hb1, inR, Int.le_sub_one_iff, Bool.and_assoc, *]; done)
      | (simp [instrOk, kindOk, *]; done)
      | (simp [instrOk, restOk, *]; done)
      | (simp [instrOk, restOk, *]; omega)
      | (simp [instrOk, kindOk, fieldsOf, *]; done)
      | (simp [fieldsOf, restOk] at *; done)
      | (simp [instrOk, kindOk, fieldsOf, restOk, inR, *]; done)
      | (simp only [instrOk, kindOk, restOk, inR] at *; grind)
      | fail
   intro hb6; try simp at hb6
   try subst hb6
   refine SW.skip ?_
  all_goals (
   refine hK1 _ ?_; refine SW.seqK fun K2 hK2 => ?_; refine SW.rc ?_; refine SW.block ?_; refine SW.rc ?_; refine SW.cond _ rfl (by simp) ?_ ?_
   case' refine_1 =>
    intro hb7; try simp at hb7
    try subst hb7
    refine SW.rc ?_; refine SW.ret ?_; simp [Ex.then, Ex.ib]
    all_goals first
      | (simp [fieldsOf, restOk] at hb1; simp [instrOk, kindOk, fieldsOf, restOk, hb1, inR, Int.le_sub_one_iff, Bool.and_assoc, *]; done)
      | (simp [instrOk, kindOk, *]; done)
      | (simp [instrOk, restOk, *]; done)
      | (simp [instrOk, restOk, *]; omega)
      | (simp [instrOk, kindOk, fieldsOf, *]; done)
      | (simp [fieldsOf, restOk] at *; done)
      | (simp [instrOk, kindOk, fieldsOf, restOk, inR, *]; done)
      | (simp only [instrOk, kindOk, restOk, inR] at *; grind)
      | fail
   intro hb7; try simp at hb7
   try subst hb7
   refine SW.rc ?_; refine SW.cond _ rfl (by simp) ?_ ?_
   case' refine_1 =>
    intro hb8; try simp at hb8
    try subst hb8
    refine SW.rg fun K hK => ?_; simp -implicitDefEqProofs; iterate 2 (try refine ⟨by omega, ?_⟩)
    refine CallK.fz (reg_i _) ?_; simp -implicitDefEqProofs; iterate 2 (try refine ⟨by omega, ?_⟩)
    refine CallG.fz (by simp) (fun _ => val_i _) ?_; simp -implicitDefEqProofs
    first | refine hK _ ?_ | (refine ⟨?_, hK _ ?_⟩; (first | omega | (clear hK; grind) | (intros; simp_all; done))) | (refine ⟨?_, ?_, hK _ ?_⟩; iterate 2 (first | omega | (clear hK; grind) | (intros; simp_all; done)))
    clear hK K; refine SW.ret ?_; simp [Ex.then, Ex.ib]
    all_goals first
      | (simp [fieldsOf, restOk] at hb1; simp [instrOk, kindOk, fieldsOf, restOk, hb1, inR, Int.le_sub_one_iff, Bool.and_assoc, *]; done)
      | (simp [instrOk, kindOk, *]; done)
      | (simp [instrOk, restOk, *]; done)
      | (simp [instrOk, restOk, *]; omega)
      | (simp [instrOk, kindOk, fieldsOf, *]; done)
      | (simp [fieldsOf, restOk] at *; done)
      | (simp [instrOk, kindOk, fieldsOf, restOk, inR, *]; done)
      | (simp only [instrOk, kindOk, restOk, inR] at *; grind)
      | fail
   intro hb8; try simp at hb8
   try subst hb8
   refine SW.seqK fun K3 hK3 => ?_; refine SW.rc ?_; refine SW.cond _ rfl (by simp) ?_ ?_
   case' refine_2 =>
    intro hb9; try simp at hb9
    try subst hb9
    refine SW.rc ?_; refine SW.cond _ rfl (by simp) ?_ ?_
    case' refine_2 =>
     intro hb10; try simp at hb10
     try subst hb10
     refine SW.ec ?_
    rotate_right
    case' _ =>
     intro hb10; try simp at hb10
     try subst hb10
     refine SW.skip ?_
   rotate_right
   case' _ =>
    intro hb9; try simp at hb9
    try subst hb9
    refine SW.skip ?_
   all_goals (
    refine hK3 _ ?_; refine SW.cond _ rfl (by simp) ?_ ?_
    case' refine_1 =>
     intro hb11; try simp at hb11
     try subst hb11
     refine SW.rg fun K hK => ?_; simp -implicitDefEqProofs; iterate 2 (try refine ⟨by omega, ?_⟩)
     refine CallK.fz (reg_i _) ?_; simp -implicitDefEqProofs; iterate 2 (try refine ⟨by omega, ?_⟩)
     refine CallG.fz (by simp) (fun _ => reg_i _) ?_; simp -implicitDefEqProofs; iterate 2 (try refine ⟨by omega, ?_⟩)
     refine CallG.fz (by simp) (fun _ => reg_i _) ?_; simp -implicitDefEqProofs
     first | refine hK _ ?_ | (refine ⟨?_, hK _ ?_⟩; (first | omega | (clear hK; grind) | (intros; simp_all; done))) | (refine ⟨?_, ?_, hK _ ?_⟩; iterate 2 (first | omega | (clear hK; grind) | (intros; simp_all; done)))
     clear hK K; refine SW.ret ?_; simp [Ex.then, Ex.ib]
     all_goals first
       | (simp [fieldsOf, restOk] at hb1; simp [instrOk, kindOk, fieldsOf, restOk, hb1, inR, Int.le_sub_one_iff, Bool.and_assoc, *]; done)
       | (simp [instrOk, kindOk, *]; done)
       | (simp [instrOk, restOk, *]; done)
       | (simp [instrOk, restOk, *]; omega)
       | (simp [instrOk, kindOk, fieldsOf, *]; done)
       | (simp [fieldsOf, restOk] at *; done)
       | (simp [instrOk, kindOk, fieldsOf, restOk, inR, *]; done)
       | (simp only [instrOk, kindOk, restOk, inR] at *; grind)
       | fail
    intro hb11
    first
    | (exfalso; simp at hb11; done)
    | (exfalso; simp at hb11; omega)
    | (
     try simp at hb11
     try subst hb11
     refine SW.rc ?_; refine SW.cond _ rfl (by simp) ?_ ?_
     case' refine_1 =>
      intro hb12; try simp at hb12
      try subst hb12
      refine SW.rg fun K hK => ?_; simp -implicitDefEqProofs; iterate 2 (try refine ⟨by omega, ?_⟩)
      refine CallK.fz (within_ok _ _ _) ?_; simp -implicitDefEqProofs
      first | refine hK _ ?_ | (refine ⟨?_, hK _ ?_⟩; (first | omega | (clear hK; grind) | (intros; simp_all; done))) | (refine ⟨?_, ?_, hK _ ?_⟩; iterate 2 (first | omega | (clear hK; grind) | (intros; simp_all; done)))
      clear hK K; refine SW.ret ?_; simp [Ex.then, Ex.ib]
      all_goals first
        | (simp [fieldsOf, restOk] at hb1; simp [instrOk, kindOk, fieldsOf, restOk, hb1, inR, Int.le_sub_one_iff, Bool.and_assoc, *]; done)
        | (simp [instrOk, kindOk, *]; done)
        | (simp [instrOk, restOk, *]; done)
        | (simp [instrOk, restOk, *]; omega)
        | (simp [instrOk, kindOk, fieldsOf, *]; done)
        | (simp [fieldsOf, restOk] at *; done)
        | (simp [instrOk, kindOk, fieldsOf, restOk, inR, *]; done)
        | (simp only [instrOk, kindOk, restOk, inR] at *; grind)
        | fail
     intro hb12; try simp at hb12
     try subst hb12
     refine SW.rc ?_; refine SW.cond _ rfl (by simp) ?_ ?_
     case' refine_1 =>
      intro hb13; try simp at hb13
      try subst hb13
      refine SW.rg fun K hK => ?_; simp -implicitDefEqProofs; iterate 2 (try refine ⟨by omega, ?_⟩)
      refine CallK.fz (reg_i _) ?_; simp -implicitDefEqProofs; iterate 2 (try refine ⟨by omega, ?_⟩)
      refine CallG.fz (by simp) (fun _ => within_ok _ _ _) ?_; simp -implicitDefEqProofs
      first | refine hK _ ?_ | (refine ⟨?_, hK _ ?_⟩; (first | omega | (clear hK; grind) | (intros; simp_all; done))) | (refine ⟨?_, ?_, hK _ ?_⟩; iterate 2 (first | omega | (clear hK; grind) | (intros; simp_all; done)))
      clear hK K; refine SW.ret ?_; simp [Ex.then, Ex.ib]
      all_goals first
        | (simp [fieldsOf, restOk] at hb1; simp [instrOk, kindOk, fieldsOf, restOk, hb1, inR, Int.le_sub_one_iff, Bool.and_assoc, *]; done)
        | (simp [instrOk, kindOk, *]; done)
        | (simp [instrOk, restOk, *]; done)
        | (simp [instrOk, restOk, *]; omega)
        | (simp [instrOk, kindOk, fieldsOf, *]; done)
        | (simp [fieldsOf, restOk] at *; done)
        | (simp [instrOk, kindOk, fieldsOf, restOk, inR, *]; done)
        | (simp only [instrOk, kindOk, restOk, inR] at *; grind)
        | fail
     intro hb13; try simp at hb13
     try subst hb13
     refine SW.rc ?_; refine SW.cond _ rfl (by simp) ?_ ?_
     case' refine_1 =>
      intro hb14; try simp at hb14
      try subst hb14
      refine SW.rg fun K hK => ?_; simp -implicitDefEqProofs; iterate 2 (try refine ⟨by omega, ?_⟩)
      refine CallK.fz (chan_i p _) ?_; simp -implicitDefEqProofs; iterate 2 (try refine ⟨by omega, ?_⟩)
      refine CallG.fz (by simp) (fun _ => reg_i _) ?_; simp -implicitDefEqProofs
      first | refine hK _ ?_ | (refine ⟨?_, hK _ ?_⟩; (first | omega | (clear hK; grind) | (intros; simp_all; done))) | (refine ⟨?_, ?_, hK _ ?_⟩; iterate 2 (first | omega | (clear hK; grind) | (intros; simp_all; done)))
      clear hK K; refine SW.ret ?_; simp [Ex.then, Ex.ib]
      all_goals first
        | (simp [fieldsOf, restOk] at hb1; simp [instrOk, kindOk, fieldsOf, restOk, hb1, inR, Int.le_sub_one_iff, Bool.and_assoc, *]; done)
        | (simp [instrOk, kindOk, *]; done)
        | (simp [instrOk, restOk, *]; done)
        | (simp [instrOk, restOk, *]; omega)
        | (simp [instrOk, kindOk, fieldsOf, *]; done)
        | (simp [fieldsOf, restOk] at *; done)
        | (simp [instrOk, kindOk, fieldsOf, restOk, inR, *]; done)
        | (simp only [instrOk, kindOk, restOk, inR] at *; grind)
        | fail
     intro hb14; try simp at hb14
     try subst hb14
     refine SW.rc ?_; refine SW.cond _ rfl (by simp) ?_ ?_
     case' refine_1 =>
      intro hb15; try simp at hb15
      try subst hb15
      refine SW.rg fun K hK => ?_; simp -implicitDefEqProofs; iterate 2 (try refine ⟨by omega, ?_⟩)
      refine CallK.fz (chan_i p _) ?_; simp -implicitDefEqProofs; iterate 2 (try refine ⟨by omega, ?_⟩)
      refine CallG.fz (by simp) (fun _ => reg_i _) ?_; simp -implicitDefEqProofs; iterate 2 (try refine ⟨by omega, ?_⟩)
      refine CallG.fz (by simp) (fun _ => reg_i _) ?_; simp -implicitDefEqProofs
      first | refine hK _ ?_ | (refine ⟨?_, hK _ ?_⟩; (first | omega | (clear hK; grind) | (intros; simp_all; done))) | (refine ⟨?_, ?_, hK _ ?_⟩; iterate 2 (first | omega | (clear hK; grind) | (intros; simp_all; done)))
      clear hK K; refine SW.ret ?_; simp [Ex.then, Ex.ib]
      all_goals first
        | (simp [fieldsOf, restOk] at hb1; simp [instrOk, kindOk, fieldsOf, restOk, hb1, inR, Int.le_sub_one_iff, Bool.and_assoc, *]; done)
        | (simp [instrOk, kindOk, *]; done)
        | (simp [instrOk, restOk, *]; done)
        | (simp [instrOk, restOk, *]; omega)
        | (simp [instrOk, kindOk, fieldsOf, *]; done)
        | (simp [fieldsOf, restOk] at *; done)
        | (simp [instrOk, kindOk, fieldsOf, restOk, inR, *]; done)
        | (simp only [instrOk, kindOk, restOk, inR] at *; grind)
        | fail
     intro hb15; try simp at hb15
     try subst hb15
     refine SW.rc ?_; refine SW.cond _ rfl (by simp) ?_ ?_
     case' refine_1 =>
      intro hb16; try simp at hb16
      try subst hb16
      refine SW.rg fun K hK => ?_; simp -implicitDefEqProofs; iterate 2 (try refine ⟨by omega, ?_⟩)
      refine CallK.fz (chan_i p _) ?_; simp -implicitDefEqProofs
      first | refine hK _ ?_ | (refine ⟨?_, hK _ ?_⟩; (first | omega | (clear hK; grind) | (intros; simp_all; done))) | (refine ⟨?_, ?_, hK _ ?_⟩; iterate 2 (first | omega | (clear hK; grind) | (intros; simp_all; done)))
      clear hK K; refine SW.ret ?_; simp [Ex.then, Ex.ib]
      all_goals first
        | (simp [fieldsOf, restOk] at hb1; simp [instrOk, kindOk, fieldsOf, restOk, hb1, inR, Int.le_sub_one_iff, Bool.and_assoc, *]; done)
        | (simp [instrOk, kindOk, *]; done)
        | (simp [instrOk, restOk, *]; done)
        | (simp [instrOk, restOk, *]; omega)
        | (simp [instrOk, kindOk, fieldsOf, *]; done)
        | (simp [fieldsOf, restOk] at *; done)
        | (simp [instrOk, kindOk, fieldsOf, restOk, inR, *]; done)
        | (simp only [instrOk, kindOk, restOk, inR] at *; grind)
        | fail
     intro hb16; try simp at hb16
     try subst hb16
     refine SW.rc ?_; refine SW.cond _ rfl (by simp) ?_ ?_
     case' refine_1 =>
      intro hb17; try simp at hb17
      try subst hb17
      refine SW.rg fun K hK => ?_; simp -implicitDefEqProofs; iterate 2 (try refine ⟨by omega, ?_⟩)
      refine CallK.fz (within_ok _ _ _) ?_; simp -implicitDefEqProofs
      first | refine hK _ ?_ | (refine ⟨?_, hK _ ?_⟩; (first | omega | (clear hK; grind) | (intros; simp_all; done))) | (refine ⟨?_, ?_, hK _ ?_⟩; iterate 2 (first | omega | (clear hK; grind) | (intros; simp_all; done)))
      clear hK K; refine SW.ret ?_; simp [Ex.then, Ex.ib]
      all_goals first
        | (simp [fieldsOf, restOk] at hb1; simp [instrOk, kindOk, fieldsOf, restOk, hb1, inR, Int.le_sub_one_iff, Bool.and_assoc, *]; done)
        | (simp [instrOk, kindOk, *]; done)
        | (simp [instrOk, restOk, *]; done)
        | (simp [instrOk, restOk, *]; omega)
        | (simp [instrOk, kindOk, fieldsOf, *]; done)
        | (simp [fieldsOf, restOk] at *; done)
        | (simp [instrOk, kindOk, fieldsOf, restOk, inR, *]; done)
        | (simp only [instrOk, kindOk, restOk, inR] at *; grind)
        | fail
     intro hb17; try simp at hb17
     try subst hb17
     refine SW.seqK fun K4 hK4 => ?_; refine SW.rc ?_; refine SW.cond _ rfl (by simp) ?_ ?_
     case' refine_2 =>
      intro hb18; try simp at hb18
      try subst hb18
      refine SW.ec ?_
     rotate_right
     case' _ =>
      intro hb18; try simp at hb18
      try subst hb18
      refine SW.skip ?_
     all_goals (
      refine hK4 _ ?_; refine SW.cond _ rfl (by simp) ?_ ?_
      case' refine_1 =>
       intro hb19; try simp at hb19
       try subst hb19
       refine SW.rg fun K hK => ?_; simp -implicitDefEqProofs; iterate 2 (try refine ⟨by omega, ?_⟩)
       refine CallK.fz (within_ok _ _ _) ?_; simp -implicitDefEqProofs
       first | refine hK _ ?_ | (refine ⟨?_, hK _ ?_⟩; (first | omega | (clear hK; grind) | (intros; simp_all; done))) | (refine ⟨?_, ?_, hK _ ?_⟩; iterate 2 (first | omega | (clear hK; grind) | (intros; simp_all; done)))
       clear hK K; refine SW.ret ?_; simp [Ex.then, Ex.ib]
       all_goals first
         | (simp [fieldsOf, restOk] at hb1; simp [instrOk, kindOk, fieldsOf, restOk, hb1, inR, Int.le_sub_one_iff, Bool.and_assoc, *]; done)
         | (simp [instrOk, kindOk, *]; done)
         | (simp [instrOk, restOk, *]; done)
         | (simp [instrOk, restOk, *]; omega)
         | (simp [instrOk, kindOk, fieldsOf, *]; done)
         | (simp [fieldsOf, restOk] at *; done)
         | (simp [instrOk, kindOk, fieldsOf, restOk, inR, *]; done)
         | (simp only [instrOk, kindOk, restOk, inR] at *; grind)
         | fail
      intro hb19
      first
      | (exfalso; simp at hb19; done)
      | (exfalso; simp at hb19; omega)
      | (
       try simp at hb19
       try subst hb19
       refine SW.rc ?_; refine SW.cond _ rfl (by simp) ?_ ?_
       case' refine_1 =>
        intro hb20; try simp at hb20
        try subst hb20
        refine SW.rg fun K hK => ?_; simp -implicitDefEqProofs; iterate 2 (try refine ⟨by omega, ?_⟩)
        refine CallK.fz (within_ok _ _ _) ?_; simp -implicitDefEqProofs; iterate 2 (try refine ⟨by omega, ?_⟩)
        refine CallG.fz (by simp) (fun _ => reg_i _) ?_; simp -implicitDefEqProofs
        first | refine hK _ ?_ | (refine ⟨?_, hK _ ?_⟩; (first | omega | (clear hK; grind) | (intros; simp_all; done))) | (refine ⟨?_, ?_, hK _ ?_⟩; iterate 2 (first | omega | (clear hK; grind) | (intros; simp_all; done)))
        clear hK K; refine SW.ret ?_; simp [Ex.then, Ex.ib]
        all_goals first
          | (simp [fieldsOf, restOk] at hb1; simp [instrOk, kindOk, fieldsOf, restOk, hb1, inR, Int.le_sub_one_iff, Bool.and_assoc, *]; done)
          | (simp [instrOk, kindOk, *]; done)
          | (simp [instrOk, restOk, *]; done)
          | (simp [instrOk, restOk, *]; omega)
          | (simp [instrOk, kindOk, fieldsOf, *]; done)
          | (simp [fieldsOf, restOk] at *; done)
          | (simp [instrOk, kindOk, fieldsOf, restOk, inR, *]; done)
          | (simp only [instrOk, kindOk, restOk, inR] at *; grind)
          | fail
       intro hb20; try simp at hb20
       try subst hb20
       refine SW.rc ?_; refine SW.cond _ rfl (by simp) ?_ ?_
       case' refine_1 =>
        intro hb21; try simp at hb21
        try subst hb21
        refine SW.rg fun K hK => ?_; simp -implicitDefEqProofs; iterate 2 (try refine ⟨by omega, ?_⟩)
        refine CallK.fz (reg_i _) ?_; simp -implicitDefEqProofs
        first | refine hK _ ?_ | (refine ⟨?_, hK _ ?_⟩; (first | omega | (clear hK; grind) | (intros; simp_all; done))) | (refine ⟨?_, ?_, hK _ ?_⟩; iterate 2 (first | omega | (clear hK; grind) | (intros; simp_all; done)))
        clear hK K; refine SW.ret ?_; simp [Ex.then, Ex.ib]
        all_goals first
          | (simp [fieldsOf, restOk] at hb1; simp [instrOk, kindOk, fieldsOf, restOk, hb1, inR, Int.le_sub_one_iff, Bool.and_assoc, *]; done)
          | (simp [instrOk, kindOk, *]; done)
          | (simp [instrOk, restOk, *]; done)
          | (simp [instrOk, restOk, *]; omega)
          | (simp [instrOk, kindOk, fieldsOf, *]; done)
          | (simp [fieldsOf, restOk] at *; done)
          | (simp [instrOk, kindOk, fieldsOf, restOk, inR, *]; done)
          | (simp only [instrOk, kindOk, restOk, inR] at *; grind)
          | fail
       intro hb21; try simp at hb21
       try subst hb21
       refine SW.skip ?_; refine hK2 _ ?_; refine SW.rc ?_; refine SW.ret ?_; simp [Ex.then, Ex.ib]
       all_goals first
         | (simp [fieldsOf, restOk] at hb1; simp [instrOk, kindOk, fieldsOf, restOk, hb1, inR, Int.le_sub_one_iff, Bool.and_assoc, *]; done)
         | (simp [instrOk, kindOk, *]; done)
         | (simp [instrOk, restOk, *]; done)
         | (simp [instrOk, restOk, *]; omega)
         | (simp [instrOk, kindOk, fieldsOf, *]; done)
         | (simp [fieldsOf, restOk] at *; done)
         | (simp [instrOk, kindOk, fieldsOf, restOk, inR, *]; done)
         | (simp only [instrOk, kindOk, restOk, inR] at *; grind)
         | fail)))))
end HT
