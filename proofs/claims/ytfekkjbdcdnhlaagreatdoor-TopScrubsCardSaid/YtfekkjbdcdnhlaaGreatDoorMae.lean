/- Lemmas for TopScrubs. No condition but those that each states. -/
import Derived.Test.YtfekkjbdcdnhlaaGreatDoorProg
import Derived.Test.YtfekkjbdcdnhlaaGreatDoorMad
set_option linter.all false
set_option maxHeartbeats 8000000
set_option maxRecDepth 1000000
namespace Go.Proofs.YtfekkjbdcdnhlaaGreatDoor.Sep
noncomputable section
def bs(l:List Int):List Value:=l.map (Value.int .u8)
def BQ(n:Nat):List Int:=List.replicate n 0
abbrev lF:TI:=⟨.fn,1⟩
abbrev ndA(k:Nat)(i:TI):Tr:=.nd .lf k i .lf
abbrev ndB(k:Nat):Tr:=.nd .lf k ⟨.fn,1⟩ .lf
def TT:Tr:=(.nd (.nd (.nd (.nd (.nd (.nd (.nd (.nd (ndB 1) 2 ⟨.int .i64,1⟩ (ndA 3 ⟨.int .i64,1⟩)) 4 ⟨.bool,1⟩ (.nd (ndA 5 ⟨.int .u8,1⟩) 6 ⟨.int .u8,1⟩ (ndA 7 ⟨.st [(0,1),(1,1),(2,1),(3,1)],4⟩))) 8 ⟨.st [(0,1),(1,1),(2,1),(3,1)],4⟩ (.nd (.nd (ndA 9 ⟨.str,1⟩) 10 ⟨.str,1⟩ (ndA 11 ⟨.str,1⟩)) 12 ⟨.int .u64,1⟩ (.nd (ndA 13 ⟨.st [(0,1),(1,1)],2⟩) 14 ⟨.st [(0,1),(1,1)],2⟩ .lf))) 15 ⟨.Au,1⟩ (.nd (.nd (.nd (ndA 16 ⟨.Au,1⟩) 17 ⟨.Au,1⟩ (ndA 18 ⟨.st [(0,1)],1⟩)) 19 ⟨.st [(0,1)],1⟩ (.nd (ndA 20 ⟨.LU,1⟩) 21 ⟨.int .i32,1⟩ (ndA 22 ⟨.arr 32 5 1,32⟩))) 23 ⟨.arr 32 5 1,32⟩ (.nd (.nd (ndA 24 ⟨.sl 23 32,1⟩) 25 ⟨.sl 43 1,1⟩ (ndA 26 ⟨.st [(0,1),(1,1),(2,32),(34,1),(35,1)],36⟩)) 27 ⟨.st [(0,1),(1,1),(2,32),(34,1),(35,1)],36⟩ (.nd (ndA 28 ⟨.sl 55 11,1⟩) 29 lF .lf)))) 30 lF (.nd (.nd (.nd (.nd (ndB 31) 32 ⟨.Au,1⟩ (ndA 33 ⟨.int .i64,1⟩)) 35 lF (.nd (ndA 36 ⟨.sl 56 1,1⟩) 37 ⟨.sl 3 1,1⟩ (ndA 38 ⟨.sl 58 128,1⟩))) 39 ⟨.st [(0,1),(1,1),(2,1)],3⟩ (.nd (.nd (ndA 40 ⟨.st [(0,1),(1,1),(2,1)],3⟩) 41 lF (ndA 42 ⟨.int .i64,1⟩)) 43 ⟨.int .u64,1⟩ (.nd (ndA 44 ⟨.arr 4 43 1,4⟩) 45 ⟨.st [(0,1),(1,4),(5,1),(6,1),(7,1)],8⟩ .lf))) 46 ⟨.st [(0,1),(1,4),(5,1),(6,1),(7,1)],8⟩ (.nd (.nd (.nd (ndB 47) 48 ⟨.int .i64,1⟩ (ndA 49 ⟨.int .i64,1⟩)) 50 ⟨.arr 6 43 1,6⟩ (.nd (ndA 51 ⟨.st [(0,1),(1,6)],7⟩) 52 ⟨.st [(0,1),(1,6)],7⟩ .lf)) 53 ⟨.sl 5 1,1⟩ (.nd (.nd (ndA 54 ⟨.st [(0,1),(1,7),(8,1),(9,1),(10,1)],11⟩) 55 ⟨.st [(0,1),(1,7),(8,1),(9,1),(10,1)],11⟩ (ndA 56 ⟨.int .i64,1⟩)) 57 ⟨.arr 128 5 1,128⟩ (.nd (ndA 58 ⟨.arr 128 5 1,128⟩) 60 lF .lf))))) 61 lF (.nd (.nd (.nd (.nd (.nd (ndA 62 ⟨.arr 8 43 1,8⟩) 63 ⟨.st [(0,1),(1,8),(9,1)],10⟩ (ndA 64 ⟨.st [(0,1),(1,8),(9,1)],10⟩)) 65 lF (.nd (ndB 66) 67 ⟨.st [(0,32),(32,1)],33⟩ (ndA 68 ⟨.st [(0,32),(32,1)],33⟩))) 69 lF (.nd (.nd (ndB 70) 71 ⟨.Au,1⟩ (ndB 73)) 74 ⟨.Au,1⟩ (.nd (ndB 76) 77 ⟨.Au,1⟩ .lf))) 78 lF (.nd (.nd (.nd (ndA 79 ⟨.Au,1⟩) 80 lF (ndA 81 ⟨.Au,1⟩)) 82 lF (.nd (ndA 83 ⟨.st [(0,1),(1,1),(2,1),(3,1),(4,1)],5⟩) 84 ⟨.st [(0,1),(1,1),(2,1),(3,1),(4,1)],5⟩ (ndA 85 ⟨.mp 3 249,1⟩))) 86 lF (.nd (.nd (ndA 87 ⟨.sl 356 3,1⟩) 88 ⟨.st [(0,5),(5,1),(6,1),(7,1),(8,1),(9,1)],10⟩ (ndA 89 ⟨.st [(0,5),(5,1),(6,1),(7,1),(8,1),(9,1)],10⟩)) 90 lF (.nd (ndB 91) 92 ⟨.st [(0,1),(1,1),(2,1)],3⟩ .lf)))) 93 ⟨.st [(0,1),(1,1),(2,1)],3⟩ (.nd (.nd (.nd (.nd (ndB 95) 96 lF (ndB 98)) 99 lF (.nd (ndB 101) 103 lF (ndB 104))) 105 ⟨.st [(0,1),(1,32),(33,32)],65⟩ (.nd (.nd (ndA 106 ⟨.st [(0,1),(1,32),(33,32)],65⟩) 108 lF (ndA 109 ⟨.sl 9 1,1⟩)) 110 lF (.nd (ndB 111) 112 ⟨.mp 114 165,1⟩ .lf))) 113 lF (.nd (.nd (.nd (ndA 114 ⟨.int .i64,1⟩) 115 ⟨.st [(0,1),(1,1),(2,1),(3,1),(4,1)],5⟩ (ndA 116 ⟨.st [(0,1),(1,1),(2,1),(3,1),(4,1)],5⟩)) 118 lF (.nd (ndB 119) 120 ⟨.int .u64,1⟩ .lf)) 121 lF (.nd (.nd (ndB 122) 123 ⟨.st [(0,1)],1⟩ (ndA 124 ⟨.st [(0,1)],1⟩)) 125 ⟨.sl 93 3,1⟩ (.nd (ndA 126 ⟨.st [(0,1)],1⟩) 127 ⟨.st [(0,1)],1⟩ .lf)))))) 128 lF (.nd (.nd (.nd (.nd (.nd (.nd (ndA 129 ⟨.mp 177 3,1⟩) 130 ⟨.sl 175 67,1⟩ (ndA 131 ⟨.st [(0,1),(1,32),(33,1),(34,1),(35,1),(36,1)],37⟩)) 132 ⟨.st [(0,1),(1,32),(33,1),(34,1),(35,1),(36,1)],37⟩ (.nd (ndA 133 ⟨.st [(0,1),(1,1)],2⟩) 134 ⟨.st [(0,1),(1,1)],2⟩ (ndB 135))) 136 ⟨.mp 3 219,1⟩ (.nd (.nd (ndA 137 ⟨.st [(0,1),(1,1),(2,1)],3⟩) 138 ⟨.st [(0,1),(1,1),(2,1)],3⟩ (ndA 139 ⟨.Au,1⟩)) 141 lF (.nd (ndB 142) 143 ⟨.st [(0,1)],1⟩ .lf))) 144 ⟨.st [(0,1)],1⟩ (.nd (.nd (.nd (ndB 145) 146 lF (ndB 147)) 148 ⟨.mp 49 147,1⟩ (.nd (ndB 149) 151 lF (ndB 152))) 153 lF (.nd (.nd (ndB 155) 156 ⟨.int .i64,1⟩ (ndA 157 ⟨.int .i64,1⟩)) 158 ⟨.st [(0,1),(1,32),(33,1),(34,1)],35⟩ (.nd (ndA 159 ⟨.st [(0,1),(1,32),(33,1),(34,1)],35⟩) 161 lF .lf)))) 162 lF (.nd (.nd (.nd (.nd (ndB 163) 164 ⟨.st [(0,1),(1,1)],2⟩ (ndA 165 ⟨.st [(0,1),(1,1)],2⟩)) 166 lF (.nd (ndB 167) 168 lF (ndB 169))) 170 ⟨.sl 53 1,1⟩ (.nd (.nd (ndB 171) 172 lF (ndB 173)) 174 ⟨.st [(0,35),(35,32)],67⟩ (.nd (ndA 175 ⟨.st [(0,35),(35,32)],67⟩) 176 ⟨.st [(0,1),(1,32),(33,1),(34,1)],35⟩ .lf))) 177 ⟨.st [(0,1),(1,32),(33,1),(34,1)],35⟩ (.nd (.nd (.nd (ndB 178) 179 ⟨.mp 49 205,1⟩ (ndB 180)) 181 lF (.nd (ndB 182) 183 lF .lf)) 184 lF (.nd (.nd (ndB 185) 186 lF (ndB 187)) 188 lF (.nd (ndB 189) 191 lF .lf))))) 192 lF (.nd (.nd (.nd (.nd (.nd (ndB 193) 194 lF (ndB 195)) 196 lF (.nd (ndA 197 ⟨.LU,1⟩) 198 ⟨.LU,1⟩ (ndB 200))) 201 lF (.nd (.nd (ndB 202) 203 lF (ndA 204 ⟨.st [(0,1),(1,1)],2⟩)) 205 ⟨.st [(0,1),(1,1)],2⟩ (.nd (ndB 207) 208 lF .lf))) 209 lF (.nd (.nd (.nd (ndB 210) 211 lF (ndB 213)) 214 lF (.nd (ndB 215) 216 ⟨.int .i64,1⟩ .lf)) 217 ⟨.sl 301 172,1⟩ (.nd (.nd (ndA 218 ⟨.st [(0,1),(1,1),(2,1),(3,1),(4,32),(36,1),(37,32),(69,1),(70,32),(102,1)],103⟩) 219 ⟨.st [(0,1),(1,1),(2,1),(3,1),(4,32),(36,1),(37,32),(69,1),(70,32),(102,1)],103⟩ (ndB 221)) 222 lF (.nd (ndB 223) 224 lF .lf)))) 225 lF (.nd (.nd (.nd (.nd (ndB 226) 227 lF (ndB 228)) 229 lF (.nd (ndB 230) 231 lF (ndB 232))) 233 lF (.nd (.nd (ndA 234 ⟨.int .i64,1⟩) 235 lF (ndB 236)) 238 lF (.nd (ndB 239) 240 lF .lf))) 241 lF (.nd (.nd (.nd (ndB 243) 244 lF (ndA 245 ⟨.st [(0,8),(8,1)],9⟩)) 246 ⟨.st [(0,8),(8,1)],9⟩ (.nd (ndA 247 ⟨.int .i64,1⟩) 248 ⟨.st [(0,1),(1,1),(2,9),(11,1),(12,1)],13⟩ .lf)) 249 ⟨.st [(0,1),(1,1),(2,9),(11,1),(12,1)],13⟩ (.nd (.nd (ndB 250) 251 lF (ndB 252)) 253 ⟨.st [(0,4)],4⟩ (.nd (ndA 254 ⟨.st [(0,4)],4⟩) 256 lF .lf))))))) 257 ⟨.int .i64,1⟩ (.nd (.nd (.nd (.nd (.nd (.nd (.nd (ndA 258 ⟨.st [(0,1),(1,4),(5,1),(6,1),(7,1)],8⟩) 259 ⟨.st [(0,1),(1,4),(5,1),(6,1),(7,1)],8⟩ (ndA 260 ⟨.st [(0,13),(13,8),(21,1),(22,1)],23⟩)) 261 ⟨.st [(0,13),(13,8),(21,1),(22,1)],23⟩ (.nd (ndB 263) 264 lF (ndB 265))) 266 lF (.nd (.nd (ndB 267) 268 ⟨.st [(0,1),(1,1)],2⟩ (ndA 269 ⟨.st [(0,1),(1,1)],2⟩)) 270 ⟨.st [(0,1),(1,1),(2,1),(3,2)],5⟩ (.nd (ndA 271 ⟨.st [(0,1),(1,1),(2,1),(3,2)],5⟩) 273 lF .lf))) 275 lF (.nd (.nd (.nd (ndA 276 ⟨.Au,1⟩) 277 lF (ndB 278)) 279 lF (.nd (ndA 280 ⟨.arr 64 5 1,64⟩) 281 lF (ndB 282))) 284 lF (.nd (.nd (ndB 285) 286 lF (ndB 288)) 289 lF (.nd (ndB 290) 291 lF .lf)))) 292 ⟨.st [(0,1)],1⟩ (.nd (.nd (.nd (.nd (ndA 294 ⟨.mp 296 292,1⟩) 295 lF (ndA 296 ⟨.arr 2 56 1,2⟩)) 297 lF (.nd (ndA 299 ⟨.int .i64,1⟩) 300 ⟨.st [(0,1),(1,32),(33,1),(34,128),(162,10)],172⟩ (ndA 301 ⟨.st [(0,1),(1,32),(33,1),(34,128),(162,10)],172⟩))) 302 lF (.nd (.nd (ndB 303) 304 ⟨.arr 256 23 32,8192⟩ (ndB 305)) 306 lF (.nd (ndB 307) 308 lF .lf))) 309 lF (.nd (.nd (.nd (ndA 310 ⟨.Au,1⟩) 311 lF (ndA 312 ⟨.sl 216 1,1⟩)) 313 lF (.nd (ndB 314) 315 lF .lf)) 316 lF (.nd (.nd (ndB 317) 318 lF (ndB 319)) 320 lF (.nd (ndB 321) 322 ⟨.arr 4 269 2,8⟩ .lf))))) 323 lF (.nd (.nd (.nd (.nd (.nd (ndA 324 ⟨.sl 234 1,1⟩) 325 lF (ndB 326)) 327 ⟨.st [(0,103),(103,5)],108⟩ (.nd (ndA 328 ⟨.st [(0,103),(103,5)],108⟩) 329 lF (ndB 330))) 331 lF (.nd (.nd (ndB 332) 334 lF (ndB 335)) 336 lF (.nd (ndB 337) 338 lF .lf))) 339 lF (.nd (.nd (.nd (ndB 341) 342 lF (ndB 343)) 344 lF (.nd (ndB 346) 347 lF (ndB 349))) 350 ⟨.Au,1⟩ (.nd (.nd (ndA 351 ⟨.st [(0,5),(5,1),(6,103),(109,9),(118,1),(119,8),(127,1),(128,1)],129⟩) 352 ⟨.st [(0,5),(5,1),(6,103),(109,9),(118,1),(119,8),(127,1),(128,1)],129⟩ (ndB 353)) 354 ⟨.int .i64,1⟩ (.nd (ndA 355 ⟨.st [(0,1),(1,1),(2,1)],3⟩) 356 ⟨.st [(0,1),(1,1),(2,1)],3⟩ .lf)))) 357 lF (.nd (.nd (.nd (.nd (ndB 358) 359 lF (ndB 360)) 361 lF (.nd (ndB 362) 363 lF (ndB 364))) 365 lF (.nd (.nd (ndA 366 ⟨.int .u32,1⟩) 367 ⟨.arr 64 366 1,64⟩ (ndA 368 ⟨.arr 8 366 1,8⟩)) 370 lF (.nd (ndA 371 ⟨.st [(0,64),(64,8),(72,1),(73,1),(74,1)],75⟩) 372 ⟨.st [(0,64),(64,8),(72,1),(73,1),(74,1)],75⟩ .lf))) 373 lF (.nd (.nd (.nd (ndB 374) 375 lF (ndB 376)) 377 ⟨.int .i64,1⟩ (.nd (ndB 379) 380 ⟨.Au,1⟩ .lf)) 381 lF (.nd (.nd (ndB 382) 383 ⟨.arr 24 5 1,24⟩ (ndB 384)) 386 lF (.nd (ndB 387) 388 lF .lf)))))) 389 lF (.nd (.nd (.nd (.nd (.nd (.nd (ndB 390) 391 lF (ndB 393)) 394 ⟨.arr 8 5 1,8⟩ (.nd (ndB 395) 396 ⟨.sl 269 2,1⟩ (ndB 397))) 398 lF (.nd (.nd (ndB 400) 401 lF (ndB 402)) 404 lF (.nd (ndB 405) 406 lF .lf))) 407 lF (.nd (.nd (.nd (ndB 408) 409 lF (ndA 410 ⟨.Au,1⟩)) 412 lF (.nd (ndB 414) 415 ⟨.int .i64,1⟩ (ndA 416 ⟨.st [(0,1),(1,1),(2,1)],3⟩))) 417 ⟨.st [(0,1),(1,1),(2,1)],3⟩ (.nd (.nd (ndB 418) 419 lF (ndA 420 ⟨.int .i64,1⟩)) 421 ⟨.st [(0,1),(1,1)],2⟩ (.nd (ndA 422 ⟨.st [(0,1),(1,1)],2⟩) 424 lF .lf)))) 426 lF (.nd (.nd (.nd (.nd (ndB 427) 428 lF (ndA 429 ⟨.mp 3 428,1⟩)) 430 lF (.nd (ndA 432 ⟨.mp 257 247,1⟩) 433 lF (ndB 434))) 435 lF (.nd (.nd (ndB 436) 437 lF (ndB 438)) 439 lF (.nd (ndB 440) 441 lF .lf))) 442 lF (.nd (.nd (.nd (ndB 443) 444 lF (ndA 445 ⟨.arr 256 5 1,256⟩)) 446 ⟨.st [(0,1),(1,1)],2⟩ (.nd (ndA 447 ⟨.st [(0,1),(1,1)],2⟩) 448 ⟨.arr 16 447 2,32⟩ .lf)) 450 lF (.nd (.nd (ndB 451) 452 lF (ndB 453)) 454 ⟨.st [(0,1),(1,1),(2,1)],3⟩ (.nd (ndA 455 ⟨.st [(0,1),(1,1),(2,1)],3⟩) 456 lF .lf))))) 457 lF (.nd (.nd (.nd (.nd (.nd (ndA 458 ⟨.arr 20 43 1,20⟩) 459 ⟨.arr 65 5 1,65⟩ (ndB 460)) 461 lF (.nd (ndB 462) 463 lF (ndB 464))) 465 lF (.nd (.nd (ndB 467) 469 lF (ndB 470)) 471 ⟨.mp 114 470,1⟩ (.nd (ndB 472) 473 lF .lf))) 474 ⟨.arr 16 5 1,16⟩ (.nd (.nd (.nd (ndB 475) 476 ⟨.arr 2 43 1,2⟩ (ndB 478)) 479 lF (.nd (ndB 480) 481 ⟨.Au,1⟩ .lf)) 482 ⟨.Au,1⟩ (.nd (.nd (ndA 483 ⟨.st [(0,1)],1⟩) 484 ⟨.st [(0,1)],1⟩ (ndB 485)) 486 lF (.nd (ndB 487) 488 ⟨.Au,1⟩ .lf)))) 489 lF (.nd (.nd (.nd (.nd (ndB 490) 492 lF (ndB 493)) 494 lF (.nd (ndB 495) 496 ⟨.arr 11 474 16,176⟩ (ndB 497))) 498 ⟨.st [(0,176),(176,256)],432⟩ (.nd (.nd (ndA 499 ⟨.st [(0,176),(176,256)],432⟩) 500 lF (ndB 501)) 502 ⟨.arr 4 5 1,4⟩ (.nd (ndB 503) 504 lF .lf))) 505 lF (.nd (.nd (.nd (ndB 506) 507 ⟨.st [(0,1),(1,1),(2,1),(3,1)],4⟩ (ndA 508 ⟨.st [(0,1),(1,1),(2,1),(3,1)],4⟩)) 509 ⟨.arr 0 16 1,0⟩ (.nd (ndA 510 ⟨.st [(0,0)],0⟩) 511 ⟨.st [(0,0)],0⟩ .lf)) 512 ⟨.int .u8,1⟩ (.nd (.nd (ndA 513 ⟨.int .u8,1⟩) 514 lF (ndA 515 ⟨.int .i32,1⟩)) 516 ⟨.int .i32,1⟩ (.nd (ndA 517 ⟨.st [(0,1),(1,1),(2,1),(3,1),(4,1),(5,1),(6,1),(7,1),(8,1),(9,1),(10,1)],11⟩) 518 ⟨.st [(0,1),(1,1),(2,1),(3,1),(4,1),(5,1),(6,1),(7,1),(8,1),(9,1),(10,1)],11⟩ .lf))))))))
theorem tt:Dp Tryz.prog TT=true:=kR
def zL:List (Nat×Value):=[
 (3,Value.int .i64 0),
 (5,Value.int .u8 0),
 (9,Value.string .empty),
 (23,Value.agg (bs (BQ 32)).toArray),
 (27,Value.agg ([Value.int .i64 0,.bool false]++bs (BQ 32)++[Value.slice none 0 0,.slice none 0 0]).toArray),
 (40,Value.agg ([Value.slice none 0 0,.slice none 0 0,.slice none 0 0]).toArray),
 (43,Value.int .u64 0),
 (44,Value.agg ([Value.int .u64 0,.int .u64 0,.int .u64 0,.int .u64 0]).toArray),
 (46,Value.agg ([Value.int .i64 0,.int .u64 0,.int .u64 0,.int .u64 0,.int .u64 0,.int .u64 0,.bool false,.int .u64 0]).toArray),
 (52,Value.agg ([Value.int .i64 0,.int .u64 0,.int .u64 0,.int .u64 0,.int .u64 0,.int .u64 0,.int .u64 0]).toArray),
 (53,Value.slice none 0 0),
 (55,Value.agg ([Value.int .i64 0,.int .i64 0,.int .u64 0,.int .u64 0,.int .u64 0,.int .u64 0,.int .u64 0,.int .u64 0,.int .u64 0,.int .u64 0,.slice none 0 0]).toArray),
 (58,Value.agg (bs (BQ 128)).toArray),
 (64,Value.agg ([Value.int .u64 0,.int .u64 0,.int .u64 0,.int .u64 0,.int .u64 0,.int .u64 0,.int .u64 0,.int .u64 0,.int .u64 0,.bool false]).toArray),
 (68,Value.agg (bs (BQ 32)++[Value.int .u64 0]).toArray),
 (74,Value.pointer none),
 (84,Value.agg ([Value.pointer none,.pointer none,.pointer none,.pointer none,.pointer none]).toArray),
 (89,Value.agg ([Value.pointer none,.pointer none,.pointer none,.pointer none,.pointer none,.map none,.slice none 0 0,.int .i64 0,.int .u64 0,.slice none 0 0]).toArray),
 (93,Value.agg ([Value.int .i64 0,.int .u64 0,.int .i64 0]).toArray),
 (106,Value.agg ([Value.int .u64 0]++bs (BQ 64)).toArray),
 (116,Value.agg ([Value.int .i64 0,.int .i64 0,.int .i64 0,.int .i64 0,.int .i64 0]).toArray),
 (124,Value.agg ([Value.slice none 0 0]).toArray),
 (127,Value.agg ([Value.slice none 0 0]).toArray),
 (132,Value.agg ([Value.bool false]++bs (BQ 32)++[Value.slice none 0 0,.int .i64 0,.map none,.slice none 0 0]).toArray),
 (134,Value.agg ([Value.pointer none,.pointer none]).toArray),
 (138,Value.agg ([Value.pointer none,.map none,.int .u64 0]).toArray),
 (144,Value.agg ([Value.int .i64 0]).toArray),
 (147,Value.nilFunc),
 (159,Value.agg ([Value.int .i64 0]++bs (BQ 32)++[Value.int .i64 0,.slice none 0 0]).toArray),
 (165,Value.agg ([Value.string .empty,.string .empty]).toArray),
 (175,Value.agg ([Value.int .i64 0]++bs (BQ 32)++[Value.int .i64 0,.slice none 0 0]++bs (BQ 32)).toArray),
 (177,Value.agg ([Value.int .i64 0]++bs (BQ 32)++[Value.int .i64 0,.string .empty]).toArray),
 (205,Value.agg ([Value.string .empty,.int .i64 0]).toArray),
 (219,Value.agg ([Value.int .u64 0,.int .i64 0,.int .i64 0,.int .u64 0]++bs (BQ 32)++[Value.slice none 0 0]++bs (BQ 32)++[Value.int .u64 0]++bs (BQ 32)++[Value.int .i64 0]).toArray),
 (246,Value.agg ([Value.int .u64 0,.int .u64 0,.int .u64 0,.int .u64 0,.int .u64 0,.int .u64 0,.int .u64 0,.int .u64 0,.int .u64 0]).toArray),
 (247,Value.int .i64 0),
 (249,Value.agg ([Value.int .i64 0,.int .u64 0,.int .u64 0,.int .u64 0,.int .u64 0,.int .u64 0,.int .u64 0,.int .u64 0,.int .u64 0,.int .u64 0,.int .u64 0,.bool false,.int .i64 0]).toArray),
 (254,Value.agg ([Value.int .u64 0,.int .u64 0,.int .u64 0,.int .u64 0]).toArray),
 (261,Value.agg ([Value.int .i64 0,.int .u64 0,.int .u64 0,.int .u64 0,.int .u64 0,.int .u64 0,.int .u64 0,.int .u64 0,.int .u64 0,.int .u64 0,.int .u64 0,.bool false,.int .i64 0,.int .i64 0,.int .u64 0,.int .u64 0,.int .u64 0,.int .u64 0,.int .u64 0,.bool false,.int .i64 0,.int .i64 0,.slice none 0 0]).toArray),
 (269,Value.agg ([Value.int .i64 0,.int .i64 0]).toArray),
 (271,Value.agg ([Value.int .i64 0,.int .i64 0,.int .i64 0,.int .i64 0,.int .i64 0]).toArray),
 (280,Value.agg (bs (BQ 64)).toArray),
 (292,Value.agg ([Value.bool false]).toArray),
 (296,Value.agg ([Value.int .i64 0,.int .i64 0]).toArray),
 (301,Value.agg ([Value.int .i64 0]++bs (BQ 32)++[Value.int .i64 0]++bs (BQ 128)++[Value.int .u64 0,.int .u64 0,.int .u64 0,.int .u64 0,.int .u64 0,.int .u64 0,.int .u64 0,.int .u64 0,.int .u64 0,.bool false]).toArray),
 (304,Value.agg (bs (BQ 8192)).toArray),
 (322,Value.agg ([Value.int .i64 0,.int .i64 0,.int .i64 0,.int .i64 0,.int .i64 0,.int .i64 0,.int .i64 0,.int .i64 0]).toArray),
 (328,Value.agg ([Value.int .u64 0,.int .i64 0,.int .i64 0,.int .u64 0]++bs (BQ 32)++[Value.slice none 0 0]++bs (BQ 32)++[Value.int .u64 0]++bs (BQ 32)++[Value.int .i64 0,.int .i64 0,.int .i64 0,.int .i64 0,.int .i64 0,.int .i64 0]).toArray),
 (350,Value.pointer none),
 (352,Value.agg ([Value.pointer none,.pointer none,.pointer none,.pointer none,.pointer none,.int .i64 0,.int .u64 0,.int .i64 0,.int .i64 0,.int .u64 0]++bs (BQ 32)++[Value.slice none 0 0]++bs (BQ 32)++[Value.int .u64 0]++bs (BQ 32)++[Value.int .i64 0,.int .u64 0,.int .u64 0,.int .u64 0,.int .u64 0,.int .u64 0,.int .u64 0,.int .u64 0,.int .u64 0,.int .u64 0,.slice none 0 0,.int .i64 0,.int .u64 0,.int .u64 0,.int .u64 0,.int .u64 0,.int .u64 0,.bool false,.int .i64 0,.int .i64 0,.slice none 0 0]).toArray),
 (356,Value.agg ([Value.int .i64 0,.int .u64 0,.int .u64 0]).toArray),
 (367,Value.agg ([Value.int .u32 0,.int .u32 0,.int .u32 0,.int .u32 0,.int .u32 0,.int .u32 0,.int .u32 0,.int .u32 0,.int .u32 0,.int .u32 0,.int .u32 0,.int .u32 0,.int .u32 0,.int .u32 0,.int .u32 0,.int .u32 0,.int .u32 0,.int .u32 0,.int .u32 0,.int .u32 0,.int .u32 0,.int .u32 0,.int .u32 0,.int .u32 0,.int .u32 0,.int .u32 0,.int .u32 0,.int .u32 0,.int .u32 0,.int .u32 0,.int .u32 0,.int .u32 0,.int .u32 0,.int .u32 0,.int .u32 0,.int .u32 0,.int .u32 0,.int .u32 0,.int .u32 0,.int .u32 0,.int .u32 0,.int .u32 0,.int .u32 0,.int .u32 0,.int .u32 0,.int .u32 0,.int .u32 0,.int .u32 0,.int .u32 0,.int .u32 0,.int .u32 0,.int .u32 0,.int .u32 0,.int .u32 0,.int .u32 0,.int .u32 0,.int .u32 0,.int .u32 0,.int .u32 0,.int .u32 0,.int .u32 0,.int .u32 0,.int .u32 0,.int .u32 0]).toArray),
 (368,Value.agg ([Value.int .u32 0,.int .u32 0,.int .u32 0,.int .u32 0,.int .u32 0,.int .u32 0,.int .u32 0,.int .u32 0]).toArray),
 (372,Value.agg ([Value.int .u32 0,.int .u32 0,.int .u32 0,.int .u32 0,.int .u32 0,.int .u32 0,.int .u32 0,.int .u32 0,.int .u32 0,.int .u32 0,.int .u32 0,.int .u32 0,.int .u32 0,.int .u32 0,.int .u32 0,.int .u32 0,.int .u32 0,.int .u32 0,.int .u32 0,.int .u32 0,.int .u32 0,.int .u32 0,.int .u32 0,.int .u32 0,.int .u32 0,.int .u32 0,.int .u32 0,.int .u32 0,.int .u32 0,.int .u32 0,.int .u32 0,.int .u32 0,.int .u32 0,.int .u32 0,.int .u32 0,.int .u32 0,.int .u32 0,.int .u32 0,.int .u32 0,.int .u32 0,.int .u32 0,.int .u32 0,.int .u32 0,.int .u32 0,.int .u32 0,.int .u32 0,.int .u32 0,.int .u32 0,.int .u32 0,.int .u32 0,.int .u32 0,.int .u32 0,.int .u32 0,.int .u32 0,.int .u32 0,.int .u32 0,.int .u32 0,.int .u32 0,.int .u32 0,.int .u32 0,.int .u32 0,.int .u32 0,.int .u32 0,.int .u32 0,.int .u32 0,.int .u32 0,.int .u32 0,.int .u32 0,.int .u32 0,.int .u32 0,.int .u32 0,.int .u32 0,.slice none 0 0,.int .i64 0,.bool false]).toArray),
 (383,Value.agg (bs (BQ 24)).toArray),
 (394,Value.agg ([Value.int .u8 0,.int .u8 0,.int .u8 0,.int .u8 0,.int .u8 0,.int .u8 0,.int .u8 0,.int .u8 0]).toArray),
 (417,Value.agg ([Value.int .i64 0,.int .u64 0,.int .u64 0]).toArray),
 (422,Value.agg ([Value.int .i64 0,.int .i64 0]).toArray),
 (428,Value.nilFunc),
 (445,Value.agg (bs (BQ 256)).toArray),
 (447,Value.agg ([Value.int .u8 0,.int .u8 0]).toArray),
 (455,Value.agg ([Value.string .empty,.string .empty,.nilIface]).toArray),
 (459,Value.agg (bs (BQ 65)).toArray),
 (470,Value.nilFunc),
 (474,Value.agg (bs (BQ 16)).toArray),
 (476,Value.agg ([Value.int .u64 0,.int .u64 0]).toArray),
 (484,Value.agg ([Value.string .empty]).toArray),
 (499,Value.agg (bs (BQ 432)).toArray),
 (502,Value.agg ([Value.int .u8 0,.int .u8 0,.int .u8 0,.int .u8 0]).toArray)]
def nX:List (Nat×Value)->Nat->Option Value
 |[],_=>none
 |(k,v)::r,t=>bif Nat.beq t k then some v else nX r t
def zt(t:Nat):Option Value:=nX zL t
theorem Va:∀{l:List (Nat×Value)} {t:Nat} {v:Value},nX l t=some v->(t,v)∈l
 |[],_,_,h=>by cases h
 |(k,u)::r,t,v,h=>by
  simp only[nX]at h;cases hb:Nat.beq t k with
  |true=>rw[hb]at h;cases h;rw[AK hb];exact BH
  |false=>rw[hb]at h;exact Aw _ (Va h)
theorem aCr:∀p∈zL,(Tryz.prog.info? p.1).bind (·.zero)=some p.2:=by
 unfold zL
 repeat' (first|exact(fun _ h=>absurd h Az)|refine List.forall_mem_cons.2 ⟨kR,?_⟩)
theorem hz:∀t v,zt t=some v->(Tryz.prog.info? t).bind (·.zero)=some v:=fun t v h=>aCr _ (Va h)
theorem el3:Ew Tryz.prog 3 1 8=true:=kR
theorem W5:Ew Tryz.prog 5 1 1=true:=kR
theorem el9:Ew Tryz.prog 9 1 16=true:=kR
theorem ta:Ew Tryz.prog 23 32 32=true:=kR
theorem eM:Ew Tryz.prog 43 1 8=true:=kR
theorem eN:Ew Tryz.prog 53 1 24=true:=kR
theorem aCs:Ew Tryz.prog 55 11 104=true:=kR
theorem Md:Ew Tryz.prog 56 1 8=true:=kR
theorem Le:Ew Tryz.prog 58 128 128=true:=kR
theorem tc:Ew Tryz.prog 93 3 24=true:=kR
theorem ND:Ew Tryz.prog 175 67 104=true:=kR
theorem zQ:Ew Tryz.prog 216 1 8=true:=kR
theorem zS:Ew Tryz.prog 234 1 8=true:=kR
theorem zT:Ew Tryz.prog 269 2 16=true:=kR
theorem Yo:Ew Tryz.prog 301 172 256=true:=kR
theorem zU:Ew Tryz.prog 356 3 24=true:=kR
theorem mixed:Tryz.prog.follows .mixedOrders=true:=kR
end
end Go.Proofs.YtfekkjbdcdnhlaaGreatDoor.Sep
